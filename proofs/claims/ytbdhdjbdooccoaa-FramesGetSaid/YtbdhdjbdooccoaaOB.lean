/- Package ops, and the document's answer for it: the contracts. -/
import Derived.Test.YtbdhdjbdooccoaaDO
import Derived.Test.YtbdhdjbdooccoaaP
import Derived.Test.YtbdhdjbdooccoaaV11
import Derived.Test.YtbdhdjbdooccoaaV14
namespace Go.Proofs.Ytbdhdjbdooccoaa
open Go.Vc Go.Codec

abbrev opV (o : Opn) : Value := .agg #[.int .i64 o.kind, .string (mk o.key), .string (mk o.val), .int .i64 o.ver]
theorem valued_pu (k : Int) : Pu Try.prog 55 #[.int .i64 k] (.bool (decide (k = 2 ∨ k = 4))) := by
  intro w0
  refine valued__ok _ _ _ (Br.eqi (fun h => ⟨?_, Kp.refl _ _⟩) fun h => ⟨?_, Kp.refl _ _⟩)
  · simp [h]
  · simp [h]; rfl
set_option maxHeartbeats 1000000 in
theorem ocheck_pu (o : Opn) : Pu Try.prog 18 #[opV o] (.int .i64 (chkO o)) := by
  intro w0
  have st : St No w0 w0 [] := St.start w0
  refine ocheck_ok _ _ _ _ _ _ ?_
  unfold ocheck
  repeat' first
    | (with_reducible refine St.alloc st ?_; (try clear st); intro b w st)
    | with_reducible refine sz_and (by (repeat rw [ByteArray.size_append]); omega) ?_
    | (refine Pu.go (valued_pu _) st ?_; (try clear st); intro w st; refine ⟨_, rfl, ?_⟩)
    | (with_reducible apply ex0c; case h => first | exact St.cell st 0 rfl rfl | exact St.cell st 1 rfl rfl | exact St.cell st 2 rfl rfl | exact St.cell st 3 rfl rfl | fail)
    | (with_reducible apply ex1c; case h => first | exact St.cell st 0 rfl rfl | exact St.cell st 1 rfl rfl | exact St.cell st 2 rfl rfl | exact St.cell st 3 rfl rfl | fail)
    | (with_reducible apply ex3c; case h => first | exact St.cell st 0 rfl rfl | exact St.cell st 1 rfl rfl | exact St.cell st 2 rfl rfl | exact St.cell st 3 rfl rfl | fail)
    | (with_reducible apply ex0r; case h => first | exact St.rows st 0 rfl | exact St.rows st 1 rfl | exact St.rows st 2 rfl | exact St.rows st 3 rfl | fail)
    | (with_reducible apply exr2; case h => first | exact St.rows st 0 rfl | exact St.rows st 1 rfl | exact St.rows st 2 rfl | exact St.rows st 3 rfl | fail)
    | (with_reducible apply exr3; case h => first | exact St.rows st 0 rfl | exact St.rows st 1 rfl | exact St.rows st 2 rfl | exact St.rows st 3 rfl | fail)
    | (with_reducible apply exr4; case h => first | exact St.rows st 0 rfl | exact St.rows st 1 rfl | exact St.rows st 2 rfl | exact St.rows st 3 rfl | fail)
    | (with_reducible apply exr5; case h => first | exact St.rows st 0 rfl | exact St.rows st 1 rfl | exact St.rows st 2 rfl | exact St.rows st 3 rfl | fail)
    | (with_reducible apply exr6; case h => first | exact St.rows st 0 rfl | exact St.rows st 1 rfl | exact St.rows st 2 rfl | exact St.rows st 3 rfl | fail)
    | (with_reducible apply exWr; case h => first | exact St.wr st 0 rfl rfl | exact St.wr st 1 rfl rfl | exact St.wr st 2 rfl rfl | exact St.wr st 3 rfl rfl | fail)
    | (with_reducible apply exWrRow; case h => first | exact St.wrRow st 0 rfl rfl rfl | exact St.wrRow st 1 rfl rfl rfl | exact St.wrRow st 2 rfl rfl rfl | exact St.wrRow st 3 rfl rfl rfl | fail)
    | (with_reducible refine LetW.cell ?_; (first | refine St.store st 0 rfl ?_ | refine St.store st 1 rfl ?_ | refine St.store st 2 rfl ?_ | refine St.store st 3 rfl ?_ | fail); (try clear st); intro w st; simp only [List.set] at st)
    | (with_reducible refine LetW.rows ?_; (first | refine St.storeRow st 0 rfl ?_ | refine St.storeRow st 1 rfl ?_ | refine St.storeRow st 2 rfl ?_ | refine St.storeRow st 3 rfl ?_ | fail); (try clear st); intro w st; simp only [List.set, setsL] at st)
    | ((with_reducible apply exr4); case h => first | exact St.rowAt st 0 rfl rfl | exact St.rowAt st 1 rfl rfl | exact St.rowAt st 2 rfl rfl | exact St.rowAt st 3 rfl rfl | fail)
    | ((with_reducible apply exr5); case h => first | exact St.rowAt st 0 rfl rfl | exact St.rowAt st 1 rfl rfl | exact St.rowAt st 2 rfl rfl | exact St.rowAt st 3 rfl rfl | fail)
    | ((with_reducible apply exr6); case h => first | exact St.rowAt st 0 rfl rfl | exact St.rowAt st 1 rfl rfl | exact St.rowAt st 2 rfl rfl | exact St.rowAt st 3 rfl rfl | fail)
    | with_reducible refine LetI.id (by omega) (by omega) ?_
    | (exfalso; omega)
    | contradiction
    | with_reducible refine Br.dec (fun h => ?_) (fun h => ?_)
    | with_reducible refine Br.eqi (fun h => ?_) (fun h => ?_)
    | with_reducible refine Br.nei (fun h => ?_) (fun h => ?_)
    | with_reducible refine Br.eqs' (fun h => ?_) (fun h => ?_)
    | with_reducible refine Br.eqs (fun h => ?_) (fun h => ?_)
    | with_reducible refine Br.not ?_
    | with_reducible refine Br.and_ ?_
    | with_reducible refine Br.sure rfl ?_
    | with_reducible refine Br.nay rfl ?_
    | with_reducible refine Br.eqb (fun h => ?_) (fun h => ?_)
    | with_reducible refine Br.bool (fun h => ?_) (fun h => ?_)
    | fail
  all_goals refine ⟨?_, st.kp⟩
  all_goals refine congrArg (fun n => Ending.returned (Value.int .i64 n)) ?_
  all_goals unfold chkO
  all_goals try simp only [mk_size, ← List.length_eq_zero_iff, ne_eq] at *
  all_goals (repeat' split) <;> omega
set_option maxHeartbeats 1000000 in
theorem rocheck_pu (o : Opn) : Pu Try.prog 19 #[opV o] (.int .i64 (chkO o)) := by
  intro w0
  have st : St No w0 w0 [] := St.start w0
  refine rocheck_ok _ _ _ _ _ _ ?_
  unfold rocheck
  repeat' first
    | (with_reducible refine St.alloc st ?_; (try clear st); intro b w st)
    | with_reducible refine sz_and (by (repeat rw [ByteArray.size_append]); omega) ?_
    | (with_reducible apply ex0c; case h => first | exact St.cell st 0 rfl rfl | exact St.cell st 1 rfl rfl | exact St.cell st 2 rfl rfl | exact St.cell st 3 rfl rfl | fail)
    | (with_reducible apply ex1c; case h => first | exact St.cell st 0 rfl rfl | exact St.cell st 1 rfl rfl | exact St.cell st 2 rfl rfl | exact St.cell st 3 rfl rfl | fail)
    | (with_reducible apply ex3c; case h => first | exact St.cell st 0 rfl rfl | exact St.cell st 1 rfl rfl | exact St.cell st 2 rfl rfl | exact St.cell st 3 rfl rfl | fail)
    | (with_reducible apply ex0r; case h => first | exact St.rows st 0 rfl | exact St.rows st 1 rfl | exact St.rows st 2 rfl | exact St.rows st 3 rfl | fail)
    | (with_reducible apply exr2; case h => first | exact St.rows st 0 rfl | exact St.rows st 1 rfl | exact St.rows st 2 rfl | exact St.rows st 3 rfl | fail)
    | (with_reducible apply exr3; case h => first | exact St.rows st 0 rfl | exact St.rows st 1 rfl | exact St.rows st 2 rfl | exact St.rows st 3 rfl | fail)
    | (with_reducible apply exr4; case h => first | exact St.rows st 0 rfl | exact St.rows st 1 rfl | exact St.rows st 2 rfl | exact St.rows st 3 rfl | fail)
    | (with_reducible apply exr5; case h => first | exact St.rows st 0 rfl | exact St.rows st 1 rfl | exact St.rows st 2 rfl | exact St.rows st 3 rfl | fail)
    | (with_reducible apply exr6; case h => first | exact St.rows st 0 rfl | exact St.rows st 1 rfl | exact St.rows st 2 rfl | exact St.rows st 3 rfl | fail)
    | (with_reducible apply exWr; case h => first | exact St.wr st 0 rfl rfl | exact St.wr st 1 rfl rfl | exact St.wr st 2 rfl rfl | exact St.wr st 3 rfl rfl | fail)
    | (with_reducible apply exWrRow; case h => first | exact St.wrRow st 0 rfl rfl rfl | exact St.wrRow st 1 rfl rfl rfl | exact St.wrRow st 2 rfl rfl rfl | exact St.wrRow st 3 rfl rfl rfl | fail)
    | (with_reducible refine LetW.cell ?_; (first | refine St.store st 0 rfl ?_ | refine St.store st 1 rfl ?_ | refine St.store st 2 rfl ?_ | refine St.store st 3 rfl ?_ | fail); (try clear st); intro w st; simp only [List.set] at st)
    | (with_reducible refine LetW.rows ?_; (first | refine St.storeRow st 0 rfl ?_ | refine St.storeRow st 1 rfl ?_ | refine St.storeRow st 2 rfl ?_ | refine St.storeRow st 3 rfl ?_ | fail); (try clear st); intro w st; simp only [List.set, setsL] at st)
    | ((with_reducible apply exr4); case h => first | exact St.rowAt st 0 rfl rfl | exact St.rowAt st 1 rfl rfl | exact St.rowAt st 2 rfl rfl | exact St.rowAt st 3 rfl rfl | fail)
    | ((with_reducible apply exr5); case h => first | exact St.rowAt st 0 rfl rfl | exact St.rowAt st 1 rfl rfl | exact St.rowAt st 2 rfl rfl | exact St.rowAt st 3 rfl rfl | fail)
    | ((with_reducible apply exr6); case h => first | exact St.rowAt st 0 rfl rfl | exact St.rowAt st 1 rfl rfl | exact St.rowAt st 2 rfl rfl | exact St.rowAt st 3 rfl rfl | fail)
    | with_reducible refine LetI.id (by omega) (by omega) ?_
    | (exfalso; omega)
    | contradiction
    | with_reducible refine Br.dec (fun h => ?_) (fun h => ?_)
    | with_reducible refine Br.eqi (fun h => ?_) (fun h => ?_)
    | with_reducible refine Br.nei (fun h => ?_) (fun h => ?_)
    | with_reducible refine Br.eqs' (fun h => ?_) (fun h => ?_)
    | with_reducible refine Br.eqs (fun h => ?_) (fun h => ?_)
    | with_reducible refine Br.not ?_
    | with_reducible refine Br.and_ ?_
    | with_reducible refine Br.sure rfl ?_
    | with_reducible refine Br.nay rfl ?_
    | with_reducible refine Br.eqb (fun h => ?_) (fun h => ?_)
    | with_reducible refine Br.bool (fun h => ?_) (fun h => ?_)
    | fail
  all_goals refine ⟨?_, st.kp⟩
  all_goals refine congrArg (fun n => Ending.returned (Value.int .i64 n)) ?_
  all_goals unfold chkO
  all_goals try simp only [mk_size, ← List.length_eq_zero_iff, ne_eq] at *
  all_goals (repeat' split) <;> omega
theorem ocost_pu (o : Opn) : Pu Try.prog 20 #[opV o] (.int .i64 (costO o)) := by
  intro w0
  have st : St No w0 w0 [] := St.start w0
  have hk := fun h => chkO_ok (o := o) h
  have e1 : (mk o.key).size = o.key.length := rfl
  have e2 : (mk o.val).size = o.val.length := rfl
  refine ocost_ok _ _ _ _ _ _ ?_
  unfold ocost
  repeat' first
    | (with_reducible refine St.alloc st ?_; (try clear st); intro b w st)
    | with_reducible refine sz_and (by (repeat rw [ByteArray.size_append]); omega) ?_
    | (refine Pu.go (ocheck_pu o) st ?_; (try clear st); intro w st; refine ⟨_, rfl, ?_⟩)
    | (with_reducible apply ex0c; case h => first | exact St.cell st 0 rfl rfl | exact St.cell st 1 rfl rfl | exact St.cell st 2 rfl rfl | exact St.cell st 3 rfl rfl | fail)
    | (with_reducible apply ex1c; case h => first | exact St.cell st 0 rfl rfl | exact St.cell st 1 rfl rfl | exact St.cell st 2 rfl rfl | exact St.cell st 3 rfl rfl | fail)
    | (with_reducible apply ex3c; case h => first | exact St.cell st 0 rfl rfl | exact St.cell st 1 rfl rfl | exact St.cell st 2 rfl rfl | exact St.cell st 3 rfl rfl | fail)
    | (with_reducible apply ex0r; case h => first | exact St.rows st 0 rfl | exact St.rows st 1 rfl | exact St.rows st 2 rfl | exact St.rows st 3 rfl | fail)
    | (with_reducible apply exr2; case h => first | exact St.rows st 0 rfl | exact St.rows st 1 rfl | exact St.rows st 2 rfl | exact St.rows st 3 rfl | fail)
    | (with_reducible apply exr3; case h => first | exact St.rows st 0 rfl | exact St.rows st 1 rfl | exact St.rows st 2 rfl | exact St.rows st 3 rfl | fail)
    | (with_reducible apply exr4; case h => first | exact St.rows st 0 rfl | exact St.rows st 1 rfl | exact St.rows st 2 rfl | exact St.rows st 3 rfl | fail)
    | (with_reducible apply exr5; case h => first | exact St.rows st 0 rfl | exact St.rows st 1 rfl | exact St.rows st 2 rfl | exact St.rows st 3 rfl | fail)
    | (with_reducible apply exr6; case h => first | exact St.rows st 0 rfl | exact St.rows st 1 rfl | exact St.rows st 2 rfl | exact St.rows st 3 rfl | fail)
    | (with_reducible apply exWr; case h => first | exact St.wr st 0 rfl rfl | exact St.wr st 1 rfl rfl | exact St.wr st 2 rfl rfl | exact St.wr st 3 rfl rfl | fail)
    | (with_reducible apply exWrRow; case h => first | exact St.wrRow st 0 rfl rfl rfl | exact St.wrRow st 1 rfl rfl rfl | exact St.wrRow st 2 rfl rfl rfl | exact St.wrRow st 3 rfl rfl rfl | fail)
    | (with_reducible refine LetW.cell ?_; (first | refine St.store st 0 rfl ?_ | refine St.store st 1 rfl ?_ | refine St.store st 2 rfl ?_ | refine St.store st 3 rfl ?_ | fail); (try clear st); intro w st; simp only [List.set] at st)
    | (with_reducible refine LetW.rows ?_; (first | refine St.storeRow st 0 rfl ?_ | refine St.storeRow st 1 rfl ?_ | refine St.storeRow st 2 rfl ?_ | refine St.storeRow st 3 rfl ?_ | fail); (try clear st); intro w st; simp only [List.set, setsL] at st)
    | ((with_reducible apply exr4); case h => first | exact St.rowAt st 0 rfl rfl | exact St.rowAt st 1 rfl rfl | exact St.rowAt st 2 rfl rfl | exact St.rowAt st 3 rfl rfl | fail)
    | ((with_reducible apply exr5); case h => first | exact St.rowAt st 0 rfl rfl | exact St.rowAt st 1 rfl rfl | exact St.rowAt st 2 rfl rfl | exact St.rowAt st 3 rfl rfl | fail)
    | ((with_reducible apply exr6); case h => first | exact St.rowAt st 0 rfl rfl | exact St.rowAt st 1 rfl rfl | exact St.rowAt st 2 rfl rfl | exact St.rowAt st 3 rfl rfl | fail)
    | with_reducible refine LetI.id (by omega) (by omega) ?_
    | fail
  refine Br.nei (fun h => ⟨?_, st.kp⟩) (fun h => ?_)
  · unfold costO; rw [if_pos h]
  obtain ⟨_, _, _, _, _, _, _, h1, h2⟩ := hk h
  repeat' first
    | (with_reducible refine St.alloc st ?_; (try clear st); intro b w st)
    | with_reducible refine sz_and (by (repeat rw [ByteArray.size_append]); omega) ?_
    | (with_reducible apply ex0c; case h => first | exact St.cell st 0 rfl rfl | exact St.cell st 1 rfl rfl | exact St.cell st 2 rfl rfl | exact St.cell st 3 rfl rfl | fail)
    | (with_reducible apply ex1c; case h => first | exact St.cell st 0 rfl rfl | exact St.cell st 1 rfl rfl | exact St.cell st 2 rfl rfl | exact St.cell st 3 rfl rfl | fail)
    | (with_reducible apply ex3c; case h => first | exact St.cell st 0 rfl rfl | exact St.cell st 1 rfl rfl | exact St.cell st 2 rfl rfl | exact St.cell st 3 rfl rfl | fail)
    | (with_reducible apply ex0r; case h => first | exact St.rows st 0 rfl | exact St.rows st 1 rfl | exact St.rows st 2 rfl | exact St.rows st 3 rfl | fail)
    | (with_reducible apply exr2; case h => first | exact St.rows st 0 rfl | exact St.rows st 1 rfl | exact St.rows st 2 rfl | exact St.rows st 3 rfl | fail)
    | (with_reducible apply exr3; case h => first | exact St.rows st 0 rfl | exact St.rows st 1 rfl | exact St.rows st 2 rfl | exact St.rows st 3 rfl | fail)
    | (with_reducible apply exr4; case h => first | exact St.rows st 0 rfl | exact St.rows st 1 rfl | exact St.rows st 2 rfl | exact St.rows st 3 rfl | fail)
    | (with_reducible apply exr5; case h => first | exact St.rows st 0 rfl | exact St.rows st 1 rfl | exact St.rows st 2 rfl | exact St.rows st 3 rfl | fail)
    | (with_reducible apply exr6; case h => first | exact St.rows st 0 rfl | exact St.rows st 1 rfl | exact St.rows st 2 rfl | exact St.rows st 3 rfl | fail)
    | (with_reducible apply exWr; case h => first | exact St.wr st 0 rfl rfl | exact St.wr st 1 rfl rfl | exact St.wr st 2 rfl rfl | exact St.wr st 3 rfl rfl | fail)
    | (with_reducible apply exWrRow; case h => first | exact St.wrRow st 0 rfl rfl rfl | exact St.wrRow st 1 rfl rfl rfl | exact St.wrRow st 2 rfl rfl rfl | exact St.wrRow st 3 rfl rfl rfl | fail)
    | (with_reducible refine LetW.cell ?_; (first | refine St.store st 0 rfl ?_ | refine St.store st 1 rfl ?_ | refine St.store st 2 rfl ?_ | refine St.store st 3 rfl ?_ | fail); (try clear st); intro w st; simp only [List.set] at st)
    | (with_reducible refine LetW.rows ?_; (first | refine St.storeRow st 0 rfl ?_ | refine St.storeRow st 1 rfl ?_ | refine St.storeRow st 2 rfl ?_ | refine St.storeRow st 3 rfl ?_ | fail); (try clear st); intro w st; simp only [List.set, setsL] at st)
    | ((with_reducible apply exr4); case h => first | exact St.rowAt st 0 rfl rfl | exact St.rowAt st 1 rfl rfl | exact St.rowAt st 2 rfl rfl | exact St.rowAt st 3 rfl rfl | fail)
    | ((with_reducible apply exr5); case h => first | exact St.rowAt st 0 rfl rfl | exact St.rowAt st 1 rfl rfl | exact St.rowAt st 2 rfl rfl | exact St.rowAt st 3 rfl rfl | fail)
    | ((with_reducible apply exr6); case h => first | exact St.rowAt st 0 rfl rfl | exact St.rowAt st 1 rfl rfl | exact St.rowAt st 2 rfl rfl | exact St.rowAt st 3 rfl rfl | fail)
    | with_reducible refine LetI.id (by omega) (by omega) ?_
    | fail
  unfold costO; rw [if_neg (by simp [h])]
  exact ⟨rfl, st.kp⟩
theorem rocost_pu (o : Opn) : Pu Try.prog 21 #[opV o] (.int .i64 (costO o)) := by
  intro w0
  have st : St No w0 w0 [] := St.start w0
  have hk := fun h => chkO_ok (o := o) h
  have e1 : (mk o.key).size = o.key.length := rfl
  have e2 : (mk o.val).size = o.val.length := rfl
  refine rocost_ok _ _ _ _ _ _ ?_
  unfold rocost
  repeat' first
    | (with_reducible refine St.alloc st ?_; (try clear st); intro b w st)
    | with_reducible refine sz_and (by (repeat rw [ByteArray.size_append]); omega) ?_
    | (refine Pu.go (rocheck_pu o) st ?_; (try clear st); intro w st; refine ⟨_, rfl, ?_⟩)
    | (with_reducible apply ex0c; case h => first | exact St.cell st 0 rfl rfl | exact St.cell st 1 rfl rfl | exact St.cell st 2 rfl rfl | exact St.cell st 3 rfl rfl | fail)
    | (with_reducible apply ex1c; case h => first | exact St.cell st 0 rfl rfl | exact St.cell st 1 rfl rfl | exact St.cell st 2 rfl rfl | exact St.cell st 3 rfl rfl | fail)
    | (with_reducible apply ex3c; case h => first | exact St.cell st 0 rfl rfl | exact St.cell st 1 rfl rfl | exact St.cell st 2 rfl rfl | exact St.cell st 3 rfl rfl | fail)
    | (with_reducible apply ex0r; case h => first | exact St.rows st 0 rfl | exact St.rows st 1 rfl | exact St.rows st 2 rfl | exact St.rows st 3 rfl | fail)
    | (with_reducible apply exr2; case h => first | exact St.rows st 0 rfl | exact St.rows st 1 rfl | exact St.rows st 2 rfl | exact St.rows st 3 rfl | fail)
    | (with_reducible apply exr3; case h => first | exact St.rows st 0 rfl | exact St.rows st 1 rfl | exact St.rows st 2 rfl | exact St.rows st 3 rfl | fail)
    | (with_reducible apply exr4; case h => first | exact St.rows st 0 rfl | exact St.rows st 1 rfl | exact St.rows st 2 rfl | exact St.rows st 3 rfl | fail)
    | (with_reducible apply exr5; case h => first | exact St.rows st 0 rfl | exact St.rows st 1 rfl | exact St.rows st 2 rfl | exact St.rows st 3 rfl | fail)
    | (with_reducible apply exr6; case h => first | exact St.rows st 0 rfl | exact St.rows st 1 rfl | exact St.rows st 2 rfl | exact St.rows st 3 rfl | fail)
    | (with_reducible apply exWr; case h => first | exact St.wr st 0 rfl rfl | exact St.wr st 1 rfl rfl | exact St.wr st 2 rfl rfl | exact St.wr st 3 rfl rfl | fail)
    | (with_reducible apply exWrRow; case h => first | exact St.wrRow st 0 rfl rfl rfl | exact St.wrRow st 1 rfl rfl rfl | exact St.wrRow st 2 rfl rfl rfl | exact St.wrRow st 3 rfl rfl rfl | fail)
    | (with_reducible refine LetW.cell ?_; (first | refine St.store st 0 rfl ?_ | refine St.store st 1 rfl ?_ | refine St.store st 2 rfl ?_ | refine St.store st 3 rfl ?_ | fail); (try clear st); intro w st; simp only [List.set] at st)
    | (with_reducible refine LetW.rows ?_; (first | refine St.storeRow st 0 rfl ?_ | refine St.storeRow st 1 rfl ?_ | refine St.storeRow st 2 rfl ?_ | refine St.storeRow st 3 rfl ?_ | fail); (try clear st); intro w st; simp only [List.set, setsL] at st)
    | ((with_reducible apply exr4); case h => first | exact St.rowAt st 0 rfl rfl | exact St.rowAt st 1 rfl rfl | exact St.rowAt st 2 rfl rfl | exact St.rowAt st 3 rfl rfl | fail)
    | ((with_reducible apply exr5); case h => first | exact St.rowAt st 0 rfl rfl | exact St.rowAt st 1 rfl rfl | exact St.rowAt st 2 rfl rfl | exact St.rowAt st 3 rfl rfl | fail)
    | ((with_reducible apply exr6); case h => first | exact St.rowAt st 0 rfl rfl | exact St.rowAt st 1 rfl rfl | exact St.rowAt st 2 rfl rfl | exact St.rowAt st 3 rfl rfl | fail)
    | with_reducible refine LetI.id (by omega) (by omega) ?_
    | fail
  refine Br.nei (fun h => ⟨?_, st.kp⟩) (fun h => ?_)
  · unfold costO; rw [if_pos h]
  obtain ⟨_, _, _, _, _, _, _, h1, h2⟩ := hk h
  have e3 : (mk o.key ++ mk o.val).size = o.key.length + o.val.length := by rw [mk_append, mk_size, List.length_append]
  repeat' first
    | (with_reducible refine St.alloc st ?_; (try clear st); intro b w st)
    | with_reducible refine sz_and (by (repeat rw [ByteArray.size_append]); omega) ?_
    | (with_reducible apply ex0c; case h => first | exact St.cell st 0 rfl rfl | exact St.cell st 1 rfl rfl | exact St.cell st 2 rfl rfl | exact St.cell st 3 rfl rfl | fail)
    | (with_reducible apply ex1c; case h => first | exact St.cell st 0 rfl rfl | exact St.cell st 1 rfl rfl | exact St.cell st 2 rfl rfl | exact St.cell st 3 rfl rfl | fail)
    | (with_reducible apply ex3c; case h => first | exact St.cell st 0 rfl rfl | exact St.cell st 1 rfl rfl | exact St.cell st 2 rfl rfl | exact St.cell st 3 rfl rfl | fail)
    | (with_reducible apply ex0r; case h => first | exact St.rows st 0 rfl | exact St.rows st 1 rfl | exact St.rows st 2 rfl | exact St.rows st 3 rfl | fail)
    | (with_reducible apply exr2; case h => first | exact St.rows st 0 rfl | exact St.rows st 1 rfl | exact St.rows st 2 rfl | exact St.rows st 3 rfl | fail)
    | (with_reducible apply exr3; case h => first | exact St.rows st 0 rfl | exact St.rows st 1 rfl | exact St.rows st 2 rfl | exact St.rows st 3 rfl | fail)
    | (with_reducible apply exr4; case h => first | exact St.rows st 0 rfl | exact St.rows st 1 rfl | exact St.rows st 2 rfl | exact St.rows st 3 rfl | fail)
    | (with_reducible apply exr5; case h => first | exact St.rows st 0 rfl | exact St.rows st 1 rfl | exact St.rows st 2 rfl | exact St.rows st 3 rfl | fail)
    | (with_reducible apply exr6; case h => first | exact St.rows st 0 rfl | exact St.rows st 1 rfl | exact St.rows st 2 rfl | exact St.rows st 3 rfl | fail)
    | (with_reducible apply exWr; case h => first | exact St.wr st 0 rfl rfl | exact St.wr st 1 rfl rfl | exact St.wr st 2 rfl rfl | exact St.wr st 3 rfl rfl | fail)
    | (with_reducible apply exWrRow; case h => first | exact St.wrRow st 0 rfl rfl rfl | exact St.wrRow st 1 rfl rfl rfl | exact St.wrRow st 2 rfl rfl rfl | exact St.wrRow st 3 rfl rfl rfl | fail)
    | (with_reducible refine LetW.cell ?_; (first | refine St.store st 0 rfl ?_ | refine St.store st 1 rfl ?_ | refine St.store st 2 rfl ?_ | refine St.store st 3 rfl ?_ | fail); (try clear st); intro w st; simp only [List.set] at st)
    | (with_reducible refine LetW.rows ?_; (first | refine St.storeRow st 0 rfl ?_ | refine St.storeRow st 1 rfl ?_ | refine St.storeRow st 2 rfl ?_ | refine St.storeRow st 3 rfl ?_ | fail); (try clear st); intro w st; simp only [List.set, setsL] at st)
    | ((with_reducible apply exr4); case h => first | exact St.rowAt st 0 rfl rfl | exact St.rowAt st 1 rfl rfl | exact St.rowAt st 2 rfl rfl | exact St.rowAt st 3 rfl rfl | fail)
    | ((with_reducible apply exr5); case h => first | exact St.rowAt st 0 rfl rfl | exact St.rowAt st 1 rfl rfl | exact St.rowAt st 2 rfl rfl | exact St.rowAt st 3 rfl rfl | fail)
    | ((with_reducible apply exr6); case h => first | exact St.rowAt st 0 rfl rfl | exact St.rowAt st 1 rfl rfl | exact St.rowAt st 2 rfl rfl | exact St.rowAt st 3 rfl rfl | fail)
    | with_reducible refine LetI.id (by omega) (by omega) ?_
    | fail
  unfold costO; rw [if_neg (by simp [h])]
  refine ⟨?_, st.kp⟩
  simp [e3]; omega
theorem oreads_pu (o : Opn) : Pu Try.prog 22 #[opV o] (.bool (readsO o)) := by
  intro w0
  have st : St No w0 w0 [] := St.start w0
  refine oreads_ok _ _ _ _ _ _ ?_
  unfold oreads
  repeat' first
    | (with_reducible refine St.alloc st ?_; (try clear st); intro b w st)
    | with_reducible refine sz_and (by (repeat rw [ByteArray.size_append]); omega) ?_
    | (refine Pu.go (ocheck_pu o) st ?_; (try clear st); intro w st; refine ⟨_, rfl, ?_⟩)
    | (with_reducible apply ex0c; case h => first | exact St.cell st 0 rfl rfl | exact St.cell st 1 rfl rfl | exact St.cell st 2 rfl rfl | exact St.cell st 3 rfl rfl | fail)
    | (with_reducible apply ex1c; case h => first | exact St.cell st 0 rfl rfl | exact St.cell st 1 rfl rfl | exact St.cell st 2 rfl rfl | exact St.cell st 3 rfl rfl | fail)
    | (with_reducible apply ex3c; case h => first | exact St.cell st 0 rfl rfl | exact St.cell st 1 rfl rfl | exact St.cell st 2 rfl rfl | exact St.cell st 3 rfl rfl | fail)
    | (with_reducible apply ex0r; case h => first | exact St.rows st 0 rfl | exact St.rows st 1 rfl | exact St.rows st 2 rfl | exact St.rows st 3 rfl | fail)
    | (with_reducible apply exr2; case h => first | exact St.rows st 0 rfl | exact St.rows st 1 rfl | exact St.rows st 2 rfl | exact St.rows st 3 rfl | fail)
    | (with_reducible apply exr3; case h => first | exact St.rows st 0 rfl | exact St.rows st 1 rfl | exact St.rows st 2 rfl | exact St.rows st 3 rfl | fail)
    | (with_reducible apply exr4; case h => first | exact St.rows st 0 rfl | exact St.rows st 1 rfl | exact St.rows st 2 rfl | exact St.rows st 3 rfl | fail)
    | (with_reducible apply exr5; case h => first | exact St.rows st 0 rfl | exact St.rows st 1 rfl | exact St.rows st 2 rfl | exact St.rows st 3 rfl | fail)
    | (with_reducible apply exr6; case h => first | exact St.rows st 0 rfl | exact St.rows st 1 rfl | exact St.rows st 2 rfl | exact St.rows st 3 rfl | fail)
    | (with_reducible apply exWr; case h => first | exact St.wr st 0 rfl rfl | exact St.wr st 1 rfl rfl | exact St.wr st 2 rfl rfl | exact St.wr st 3 rfl rfl | fail)
    | (with_reducible apply exWrRow; case h => first | exact St.wrRow st 0 rfl rfl rfl | exact St.wrRow st 1 rfl rfl rfl | exact St.wrRow st 2 rfl rfl rfl | exact St.wrRow st 3 rfl rfl rfl | fail)
    | (with_reducible refine LetW.cell ?_; (first | refine St.store st 0 rfl ?_ | refine St.store st 1 rfl ?_ | refine St.store st 2 rfl ?_ | refine St.store st 3 rfl ?_ | fail); (try clear st); intro w st; simp only [List.set] at st)
    | (with_reducible refine LetW.rows ?_; (first | refine St.storeRow st 0 rfl ?_ | refine St.storeRow st 1 rfl ?_ | refine St.storeRow st 2 rfl ?_ | refine St.storeRow st 3 rfl ?_ | fail); (try clear st); intro w st; simp only [List.set, setsL] at st)
    | ((with_reducible apply exr4); case h => first | exact St.rowAt st 0 rfl rfl | exact St.rowAt st 1 rfl rfl | exact St.rowAt st 2 rfl rfl | exact St.rowAt st 3 rfl rfl | fail)
    | ((with_reducible apply exr5); case h => first | exact St.rowAt st 0 rfl rfl | exact St.rowAt st 1 rfl rfl | exact St.rowAt st 2 rfl rfl | exact St.rowAt st 3 rfl rfl | fail)
    | ((with_reducible apply exr6); case h => first | exact St.rowAt st 0 rfl rfl | exact St.rowAt st 1 rfl rfl | exact St.rowAt st 2 rfl rfl | exact St.rowAt st 3 rfl rfl | fail)
    | with_reducible refine LetI.id (by omega) (by omega) ?_
    | with_reducible refine Br.dec (fun h => ?_) (fun h => ?_)
    | with_reducible refine Br.eqi (fun h => ?_) (fun h => ?_)
    | with_reducible refine Br.nei (fun h => ?_) (fun h => ?_)
    | with_reducible refine Br.eqs' (fun h => ?_) (fun h => ?_)
    | with_reducible refine Br.eqs (fun h => ?_) (fun h => ?_)
    | with_reducible refine Br.not ?_
    | with_reducible refine Br.and_ ?_
    | with_reducible refine Br.sure rfl ?_
    | with_reducible refine Br.nay rfl ?_
    | with_reducible refine Br.eqb (fun h => ?_) (fun h => ?_)
    | with_reducible refine Br.bool (fun h => ?_) (fun h => ?_)
    | fail
  all_goals refine ⟨?_, st.kp⟩
  · unfold readsO; simp [h, int_beq]; try rfl
  · unfold readsO; simp [h]
set_option maxRecDepth 100000 in
theorem oput_pu (o : Opn) : Pu Try.prog 16 #[opV o] (.tuple #[.string (mk (putO o).1), .int .i64 (putO o).2]) := by
  intro w0
  have st : St No w0 w0 [] := St.start w0
  have hk := fun h => chkO_ok (o := o) h
  have e1 : (mk o.key).size = o.key.length := rfl
  have e2 : (mk o.val).size = o.val.length := rfl
  refine oput_ok _ _ _ _ _ _ ?_
  unfold oput
  repeat' first
    | (with_reducible refine St.alloc st ?_; (try clear st); intro b w st)
    | with_reducible refine sz_and (by (repeat rw [ByteArray.size_append]); omega) ?_
    | (refine Pu.go (ocheck_pu o) st ?_; (try clear st); intro w st; refine ⟨_, rfl, ?_⟩)
    | (with_reducible apply ex0c; case h => first | exact St.cell st 0 rfl rfl | exact St.cell st 1 rfl rfl | exact St.cell st 2 rfl rfl | exact St.cell st 3 rfl rfl | fail)
    | (with_reducible apply ex1c; case h => first | exact St.cell st 0 rfl rfl | exact St.cell st 1 rfl rfl | exact St.cell st 2 rfl rfl | exact St.cell st 3 rfl rfl | fail)
    | (with_reducible apply ex3c; case h => first | exact St.cell st 0 rfl rfl | exact St.cell st 1 rfl rfl | exact St.cell st 2 rfl rfl | exact St.cell st 3 rfl rfl | fail)
    | (with_reducible apply ex0r; case h => first | exact St.rows st 0 rfl | exact St.rows st 1 rfl | exact St.rows st 2 rfl | exact St.rows st 3 rfl | fail)
    | (with_reducible apply exr2; case h => first | exact St.rows st 0 rfl | exact St.rows st 1 rfl | exact St.rows st 2 rfl | exact St.rows st 3 rfl | fail)
    | (with_reducible apply exr3; case h => first | exact St.rows st 0 rfl | exact St.rows st 1 rfl | exact St.rows st 2 rfl | exact St.rows st 3 rfl | fail)
    | (with_reducible apply exr4; case h => first | exact St.rows st 0 rfl | exact St.rows st 1 rfl | exact St.rows st 2 rfl | exact St.rows st 3 rfl | fail)
    | (with_reducible apply exr5; case h => first | exact St.rows st 0 rfl | exact St.rows st 1 rfl | exact St.rows st 2 rfl | exact St.rows st 3 rfl | fail)
    | (with_reducible apply exr6; case h => first | exact St.rows st 0 rfl | exact St.rows st 1 rfl | exact St.rows st 2 rfl | exact St.rows st 3 rfl | fail)
    | (with_reducible apply exWr; case h => first | exact St.wr st 0 rfl rfl | exact St.wr st 1 rfl rfl | exact St.wr st 2 rfl rfl | exact St.wr st 3 rfl rfl | fail)
    | (with_reducible apply exWrRow; case h => first | exact St.wrRow st 0 rfl rfl rfl | exact St.wrRow st 1 rfl rfl rfl | exact St.wrRow st 2 rfl rfl rfl | exact St.wrRow st 3 rfl rfl rfl | fail)
    | (with_reducible refine LetW.cell ?_; (first | refine St.store st 0 rfl ?_ | refine St.store st 1 rfl ?_ | refine St.store st 2 rfl ?_ | refine St.store st 3 rfl ?_ | fail); (try clear st); intro w st; simp only [List.set] at st)
    | (with_reducible refine LetW.rows ?_; (first | refine St.storeRow st 0 rfl ?_ | refine St.storeRow st 1 rfl ?_ | refine St.storeRow st 2 rfl ?_ | refine St.storeRow st 3 rfl ?_ | fail); (try clear st); intro w st; simp only [List.set, setsL] at st)
    | ((with_reducible apply exr4); case h => first | exact St.rowAt st 0 rfl rfl | exact St.rowAt st 1 rfl rfl | exact St.rowAt st 2 rfl rfl | exact St.rowAt st 3 rfl rfl | fail)
    | ((with_reducible apply exr5); case h => first | exact St.rowAt st 0 rfl rfl | exact St.rowAt st 1 rfl rfl | exact St.rowAt st 2 rfl rfl | exact St.rowAt st 3 rfl rfl | fail)
    | ((with_reducible apply exr6); case h => first | exact St.rowAt st 0 rfl rfl | exact St.rowAt st 1 rfl rfl | exact St.rowAt st 2 rfl rfl | exact St.rowAt st 3 rfl rfl | fail)
    | with_reducible refine LetI.id (by omega) (by omega) ?_
    | fail
  refine Br.nei (fun h => ⟨?_, st.kp⟩) (fun h => ?_)
  · unfold putO; rw [if_pos h]; rfl
  obtain ⟨_, _, _, _, _, _, _, h1, h2⟩ := hk h
  have a1 : (mk (encI o.kind)).size ≤ 9 := encI_len o.kind
  have a2 : (mk (encT o.key)).size ≤ 9 + o.key.length := encT_len (l := o.key) (by omega)
  have a3 : (mk (encT o.val)).size ≤ 9 + o.val.length := encT_len (l := o.val) (by omega)
  have a4 : (mk (encI o.ver)).size ≤ 9 := encI_len o.ver
  have hp : putO o = (encO o, 0) := by unfold putO; rw [if_neg (by simp [h])]
  rw [hp]
  repeat' first
    | (with_reducible refine St.alloc st ?_; (try clear st); intro b w st)
    | with_reducible refine sz_and (by (repeat rw [ByteArray.size_append]); omega) ?_
    | (refine Pu.go (int_pu _) st ?_; (try clear st); intro w st; refine ⟨_, rfl, ?_⟩)
    | (refine Pu.go (text_pu (l := o.key) (by omega)) st ?_; (try clear st); intro w st; refine ⟨_, rfl, ?_⟩)
    | (refine Pu.go (text_pu (l := o.val) (by omega)) st ?_; (try clear st); intro w st; refine ⟨_, rfl, ?_⟩)
    | (refine Pu.go (valued_pu _) st ?_; (try clear st); intro w st; refine ⟨_, rfl, ?_⟩)
    | (with_reducible apply ex0c; case h => first | exact St.cell st 0 rfl rfl | exact St.cell st 1 rfl rfl | exact St.cell st 2 rfl rfl | exact St.cell st 3 rfl rfl | fail)
    | (with_reducible apply ex1c; case h => first | exact St.cell st 0 rfl rfl | exact St.cell st 1 rfl rfl | exact St.cell st 2 rfl rfl | exact St.cell st 3 rfl rfl | fail)
    | (with_reducible apply ex3c; case h => first | exact St.cell st 0 rfl rfl | exact St.cell st 1 rfl rfl | exact St.cell st 2 rfl rfl | exact St.cell st 3 rfl rfl | fail)
    | (with_reducible apply ex0r; case h => first | exact St.rows st 0 rfl | exact St.rows st 1 rfl | exact St.rows st 2 rfl | exact St.rows st 3 rfl | fail)
    | (with_reducible apply exr2; case h => first | exact St.rows st 0 rfl | exact St.rows st 1 rfl | exact St.rows st 2 rfl | exact St.rows st 3 rfl | fail)
    | (with_reducible apply exr3; case h => first | exact St.rows st 0 rfl | exact St.rows st 1 rfl | exact St.rows st 2 rfl | exact St.rows st 3 rfl | fail)
    | (with_reducible apply exr4; case h => first | exact St.rows st 0 rfl | exact St.rows st 1 rfl | exact St.rows st 2 rfl | exact St.rows st 3 rfl | fail)
    | (with_reducible apply exr5; case h => first | exact St.rows st 0 rfl | exact St.rows st 1 rfl | exact St.rows st 2 rfl | exact St.rows st 3 rfl | fail)
    | (with_reducible apply exr6; case h => first | exact St.rows st 0 rfl | exact St.rows st 1 rfl | exact St.rows st 2 rfl | exact St.rows st 3 rfl | fail)
    | (with_reducible apply exWr; case h => first | exact St.wr st 0 rfl rfl | exact St.wr st 1 rfl rfl | exact St.wr st 2 rfl rfl | exact St.wr st 3 rfl rfl | fail)
    | (with_reducible apply exWrRow; case h => first | exact St.wrRow st 0 rfl rfl rfl | exact St.wrRow st 1 rfl rfl rfl | exact St.wrRow st 2 rfl rfl rfl | exact St.wrRow st 3 rfl rfl rfl | fail)
    | (with_reducible refine LetW.cell ?_; (first | refine St.store st 0 rfl ?_ | refine St.store st 1 rfl ?_ | refine St.store st 2 rfl ?_ | refine St.store st 3 rfl ?_ | fail); (try clear st); intro w st; simp only [List.set] at st)
    | (with_reducible refine LetW.rows ?_; (first | refine St.storeRow st 0 rfl ?_ | refine St.storeRow st 1 rfl ?_ | refine St.storeRow st 2 rfl ?_ | refine St.storeRow st 3 rfl ?_ | fail); (try clear st); intro w st; simp only [List.set, setsL] at st)
    | ((with_reducible apply exr4); case h => first | exact St.rowAt st 0 rfl rfl | exact St.rowAt st 1 rfl rfl | exact St.rowAt st 2 rfl rfl | exact St.rowAt st 3 rfl rfl | fail)
    | ((with_reducible apply exr5); case h => first | exact St.rowAt st 0 rfl rfl | exact St.rowAt st 1 rfl rfl | exact St.rowAt st 2 rfl rfl | exact St.rowAt st 3 rfl rfl | fail)
    | ((with_reducible apply exr6); case h => first | exact St.rowAt st 0 rfl rfl | exact St.rowAt st 1 rfl rfl | exact St.rowAt st 2 rfl rfl | exact St.rowAt st 3 rfl rfl | fail)
    | with_reducible refine LetI.id (by omega) (by omega) ?_
    | (exfalso; omega)
    | with_reducible refine Br.dec (fun h => ?_) (fun h => ?_)
    | with_reducible refine Br.eqi (fun h => ?_) (fun h => ?_)
    | with_reducible refine Br.nei (fun h => ?_) (fun h => ?_)
    | with_reducible refine Br.eqs' (fun h => ?_) (fun h => ?_)
    | with_reducible refine Br.eqs (fun h => ?_) (fun h => ?_)
    | with_reducible refine Br.not ?_
    | with_reducible refine Br.and_ ?_
    | with_reducible refine Br.sure rfl ?_
    | with_reducible refine Br.nay rfl ?_
    | with_reducible refine Br.eqb (fun h => ?_) (fun h => ?_)
    | with_reducible refine Br.bool (fun h => ?_) (fun h => ?_)
    | fail
  all_goals refine ⟨?_, st.kp⟩
  all_goals simp only [mk_append, encO]
  all_goals (repeat' split) <;> first | (exfalso; omega) | simp
set_option maxRecDepth 100000 in
theorem roput_pu (o : Opn) : Pu Try.prog 17 #[opV o] (.tuple #[.string (mk (putO o).1), .int .i64 (putO o).2]) := by
  intro w0
  have st : St No w0 w0 [] := St.start w0
  have hk := fun h => chkO_ok (o := o) h
  have e1 : (mk o.key).size = o.key.length := rfl
  have e2 : (mk o.val).size = o.val.length := rfl
  refine roput_ok _ _ _ _ _ _ ?_
  unfold roput
  repeat' first
    | (with_reducible refine St.alloc st ?_; (try clear st); intro b w st)
    | with_reducible refine sz_and (by (repeat rw [ByteArray.size_append]); omega) ?_
    | (refine Pu.go (rocheck_pu o) st ?_; (try clear st); intro w st; refine ⟨_, rfl, ?_⟩)
    | (with_reducible apply ex0c; case h => first | exact St.cell st 0 rfl rfl | exact St.cell st 1 rfl rfl | exact St.cell st 2 rfl rfl | exact St.cell st 3 rfl rfl | fail)
    | (with_reducible apply ex1c; case h => first | exact St.cell st 0 rfl rfl | exact St.cell st 1 rfl rfl | exact St.cell st 2 rfl rfl | exact St.cell st 3 rfl rfl | fail)
    | (with_reducible apply ex3c; case h => first | exact St.cell st 0 rfl rfl | exact St.cell st 1 rfl rfl | exact St.cell st 2 rfl rfl | exact St.cell st 3 rfl rfl | fail)
    | (with_reducible apply ex0r; case h => first | exact St.rows st 0 rfl | exact St.rows st 1 rfl | exact St.rows st 2 rfl | exact St.rows st 3 rfl | fail)
    | (with_reducible apply exr2; case h => first | exact St.rows st 0 rfl | exact St.rows st 1 rfl | exact St.rows st 2 rfl | exact St.rows st 3 rfl | fail)
    | (with_reducible apply exr3; case h => first | exact St.rows st 0 rfl | exact St.rows st 1 rfl | exact St.rows st 2 rfl | exact St.rows st 3 rfl | fail)
    | (with_reducible apply exr4; case h => first | exact St.rows st 0 rfl | exact St.rows st 1 rfl | exact St.rows st 2 rfl | exact St.rows st 3 rfl | fail)
    | (with_reducible apply exr5; case h => first | exact St.rows st 0 rfl | exact St.rows st 1 rfl | exact St.rows st 2 rfl | exact St.rows st 3 rfl | fail)
    | (with_reducible apply exr6; case h => first | exact St.rows st 0 rfl | exact St.rows st 1 rfl | exact St.rows st 2 rfl | exact St.rows st 3 rfl | fail)
    | (with_reducible apply exWr; case h => first | exact St.wr st 0 rfl rfl | exact St.wr st 1 rfl rfl | exact St.wr st 2 rfl rfl | exact St.wr st 3 rfl rfl | fail)
    | (with_reducible apply exWrRow; case h => first | exact St.wrRow st 0 rfl rfl rfl | exact St.wrRow st 1 rfl rfl rfl | exact St.wrRow st 2 rfl rfl rfl | exact St.wrRow st 3 rfl rfl rfl | fail)
    | (with_reducible refine LetW.cell ?_; (first | refine St.store st 0 rfl ?_ | refine St.store st 1 rfl ?_ | refine St.store st 2 rfl ?_ | refine St.store st 3 rfl ?_ | fail); (try clear st); intro w st; simp only [List.set] at st)
    | (with_reducible refine LetW.rows ?_; (first | refine St.storeRow st 0 rfl ?_ | refine St.storeRow st 1 rfl ?_ | refine St.storeRow st 2 rfl ?_ | refine St.storeRow st 3 rfl ?_ | fail); (try clear st); intro w st; simp only [List.set, setsL] at st)
    | ((with_reducible apply exr4); case h => first | exact St.rowAt st 0 rfl rfl | exact St.rowAt st 1 rfl rfl | exact St.rowAt st 2 rfl rfl | exact St.rowAt st 3 rfl rfl | fail)
    | ((with_reducible apply exr5); case h => first | exact St.rowAt st 0 rfl rfl | exact St.rowAt st 1 rfl rfl | exact St.rowAt st 2 rfl rfl | exact St.rowAt st 3 rfl rfl | fail)
    | ((with_reducible apply exr6); case h => first | exact St.rowAt st 0 rfl rfl | exact St.rowAt st 1 rfl rfl | exact St.rowAt st 2 rfl rfl | exact St.rowAt st 3 rfl rfl | fail)
    | with_reducible refine LetI.id (by omega) (by omega) ?_
    | fail
  refine Br.nei (fun h => ⟨?_, st.kp⟩) (fun h => ?_)
  · unfold putO; rw [if_pos h]; rfl
  obtain ⟨_, _, _, _, _, _, _, h1, h2⟩ := hk h
  have a1 : (mk (encI o.kind)).size ≤ 9 := encI_len o.kind
  have a2 : (mk (encT o.key)).size ≤ 9 + o.key.length := encT_len (l := o.key) (by omega)
  have a3 : (mk (encT o.val)).size ≤ 9 + o.val.length := encT_len (l := o.val) (by omega)
  have a4 : (mk (encI o.ver)).size ≤ 9 := encI_len o.ver
  have hp : putO o = (encO o, 0) := by unfold putO; rw [if_neg (by simp [h])]
  rw [hp]
  repeat' first
    | (with_reducible refine St.alloc st ?_; (try clear st); intro b w st)
    | with_reducible refine sz_and (by (repeat rw [ByteArray.size_append]); omega) ?_
    | (refine Pu.go (rint_pu _) st ?_; (try clear st); intro w st; refine ⟨_, rfl, ?_⟩)
    | (refine Pu.go (rtext_pu (l := o.key) (by omega)) st ?_; (try clear st); intro w st; refine ⟨_, rfl, ?_⟩)
    | (refine Pu.go (rtext_pu (l := o.val) (by omega)) st ?_; (try clear st); intro w st; refine ⟨_, rfl, ?_⟩)
    | (with_reducible apply ex0c; case h => first | exact St.cell st 0 rfl rfl | exact St.cell st 1 rfl rfl | exact St.cell st 2 rfl rfl | exact St.cell st 3 rfl rfl | fail)
    | (with_reducible apply ex1c; case h => first | exact St.cell st 0 rfl rfl | exact St.cell st 1 rfl rfl | exact St.cell st 2 rfl rfl | exact St.cell st 3 rfl rfl | fail)
    | (with_reducible apply ex3c; case h => first | exact St.cell st 0 rfl rfl | exact St.cell st 1 rfl rfl | exact St.cell st 2 rfl rfl | exact St.cell st 3 rfl rfl | fail)
    | (with_reducible apply ex0r; case h => first | exact St.rows st 0 rfl | exact St.rows st 1 rfl | exact St.rows st 2 rfl | exact St.rows st 3 rfl | fail)
    | (with_reducible apply exr2; case h => first | exact St.rows st 0 rfl | exact St.rows st 1 rfl | exact St.rows st 2 rfl | exact St.rows st 3 rfl | fail)
    | (with_reducible apply exr3; case h => first | exact St.rows st 0 rfl | exact St.rows st 1 rfl | exact St.rows st 2 rfl | exact St.rows st 3 rfl | fail)
    | (with_reducible apply exr4; case h => first | exact St.rows st 0 rfl | exact St.rows st 1 rfl | exact St.rows st 2 rfl | exact St.rows st 3 rfl | fail)
    | (with_reducible apply exr5; case h => first | exact St.rows st 0 rfl | exact St.rows st 1 rfl | exact St.rows st 2 rfl | exact St.rows st 3 rfl | fail)
    | (with_reducible apply exr6; case h => first | exact St.rows st 0 rfl | exact St.rows st 1 rfl | exact St.rows st 2 rfl | exact St.rows st 3 rfl | fail)
    | (with_reducible apply exWr; case h => first | exact St.wr st 0 rfl rfl | exact St.wr st 1 rfl rfl | exact St.wr st 2 rfl rfl | exact St.wr st 3 rfl rfl | fail)
    | (with_reducible apply exWrRow; case h => first | exact St.wrRow st 0 rfl rfl rfl | exact St.wrRow st 1 rfl rfl rfl | exact St.wrRow st 2 rfl rfl rfl | exact St.wrRow st 3 rfl rfl rfl | fail)
    | (with_reducible refine LetW.cell ?_; (first | refine St.store st 0 rfl ?_ | refine St.store st 1 rfl ?_ | refine St.store st 2 rfl ?_ | refine St.store st 3 rfl ?_ | fail); (try clear st); intro w st; simp only [List.set] at st)
    | (with_reducible refine LetW.rows ?_; (first | refine St.storeRow st 0 rfl ?_ | refine St.storeRow st 1 rfl ?_ | refine St.storeRow st 2 rfl ?_ | refine St.storeRow st 3 rfl ?_ | fail); (try clear st); intro w st; simp only [List.set, setsL] at st)
    | ((with_reducible apply exr4); case h => first | exact St.rowAt st 0 rfl rfl | exact St.rowAt st 1 rfl rfl | exact St.rowAt st 2 rfl rfl | exact St.rowAt st 3 rfl rfl | fail)
    | ((with_reducible apply exr5); case h => first | exact St.rowAt st 0 rfl rfl | exact St.rowAt st 1 rfl rfl | exact St.rowAt st 2 rfl rfl | exact St.rowAt st 3 rfl rfl | fail)
    | ((with_reducible apply exr6); case h => first | exact St.rowAt st 0 rfl rfl | exact St.rowAt st 1 rfl rfl | exact St.rowAt st 2 rfl rfl | exact St.rowAt st 3 rfl rfl | fail)
    | with_reducible refine LetI.id (by omega) (by omega) ?_
    | (exfalso; omega)
    | with_reducible refine Br.dec (fun h => ?_) (fun h => ?_)
    | with_reducible refine Br.eqi (fun h => ?_) (fun h => ?_)
    | with_reducible refine Br.nei (fun h => ?_) (fun h => ?_)
    | with_reducible refine Br.eqs' (fun h => ?_) (fun h => ?_)
    | with_reducible refine Br.eqs (fun h => ?_) (fun h => ?_)
    | with_reducible refine Br.not ?_
    | with_reducible refine Br.and_ ?_
    | with_reducible refine Br.sure rfl ?_
    | with_reducible refine Br.nay rfl ?_
    | with_reducible refine Br.eqb (fun h => ?_) (fun h => ?_)
    | with_reducible refine Br.bool (fun h => ?_) (fun h => ?_)
    | fail
  all_goals refine ⟨?_, st.kp⟩
  all_goals simp only [mk_append, encO]
  all_goals (repeat' split) <;> first | (exfalso; omega) | simp
set_option maxHeartbeats 1000000 in
theorem oget_pu {l : List UInt8} (hl : l.length ≤ 1099511627776) : Pu Try.prog 23 #[.string (mk l)] (.tuple #[opV (getO l).1, .int .i64 (getO l).2]) := by
  intro w0
  have st : St No w0 w0 [] := St.start w0
  have l1 := un_len l
  have l2 := cut_len (unN l).2.1
  have l3 := cut_len (cutN (unN l).2.1).2.1
  refine oget_ok _ _ _ ?_
  unfold oget
  repeat' first
    | (with_reducible refine St.alloc st ?_; (try clear st); intro b w st)
    | with_reducible refine sz_and (by (repeat rw [ByteArray.size_append]); omega) ?_
    | (refine Pu.go (unint_pu (by omega)) st ?_; (try clear st); intro w st; refine ⟨_, _, _, rfl, ?_⟩)
    | (refine Pu.go (cut_pu (by omega)) st ?_; (try clear st); intro w st; refine ⟨_, _, _, rfl, ?_⟩)
    | (refine Pu.go (valued_pu _) st ?_; (try clear st); intro w st; refine ⟨_, rfl, ?_⟩)
    | (refine Pu.go (ocheck_pu ⟨(unN l).1, (cutN (unN l).2.1).1, _, _⟩) st ?_; (try clear st); intro w st; refine ⟨_, rfl, ?_⟩)
    | (with_reducible apply ex0c; case h => first | exact St.cell st 0 rfl rfl | exact St.cell st 1 rfl rfl | exact St.cell st 2 rfl rfl | exact St.cell st 3 rfl rfl | fail)
    | (with_reducible apply ex1c; case h => first | exact St.cell st 0 rfl rfl | exact St.cell st 1 rfl rfl | exact St.cell st 2 rfl rfl | exact St.cell st 3 rfl rfl | fail)
    | (with_reducible apply ex3c; case h => first | exact St.cell st 0 rfl rfl | exact St.cell st 1 rfl rfl | exact St.cell st 2 rfl rfl | exact St.cell st 3 rfl rfl | fail)
    | (with_reducible apply ex0r; case h => first | exact St.rows st 0 rfl | exact St.rows st 1 rfl | exact St.rows st 2 rfl | exact St.rows st 3 rfl | fail)
    | (with_reducible apply exr2; case h => first | exact St.rows st 0 rfl | exact St.rows st 1 rfl | exact St.rows st 2 rfl | exact St.rows st 3 rfl | fail)
    | (with_reducible apply exr3; case h => first | exact St.rows st 0 rfl | exact St.rows st 1 rfl | exact St.rows st 2 rfl | exact St.rows st 3 rfl | fail)
    | (with_reducible apply exr4; case h => first | exact St.rows st 0 rfl | exact St.rows st 1 rfl | exact St.rows st 2 rfl | exact St.rows st 3 rfl | fail)
    | (with_reducible apply exr5; case h => first | exact St.rows st 0 rfl | exact St.rows st 1 rfl | exact St.rows st 2 rfl | exact St.rows st 3 rfl | fail)
    | (with_reducible apply exr6; case h => first | exact St.rows st 0 rfl | exact St.rows st 1 rfl | exact St.rows st 2 rfl | exact St.rows st 3 rfl | fail)
    | (with_reducible apply exWr; case h => first | exact St.wr st 0 rfl rfl | exact St.wr st 1 rfl rfl | exact St.wr st 2 rfl rfl | exact St.wr st 3 rfl rfl | fail)
    | (with_reducible apply exWrRow; case h => first | exact St.wrRow st 0 rfl rfl rfl | exact St.wrRow st 1 rfl rfl rfl | exact St.wrRow st 2 rfl rfl rfl | exact St.wrRow st 3 rfl rfl rfl | fail)
    | (with_reducible refine LetW.cell ?_; (first | refine St.store st 0 rfl ?_ | refine St.store st 1 rfl ?_ | refine St.store st 2 rfl ?_ | refine St.store st 3 rfl ?_ | fail); (try clear st); intro w st; simp only [List.set] at st)
    | (with_reducible refine LetW.rows ?_; (first | refine St.storeRow st 0 rfl ?_ | refine St.storeRow st 1 rfl ?_ | refine St.storeRow st 2 rfl ?_ | refine St.storeRow st 3 rfl ?_ | fail); (try clear st); intro w st; simp only [List.set, setsL] at st)
    | ((with_reducible apply exr4); case h => first | exact St.rowAt st 0 rfl rfl | exact St.rowAt st 1 rfl rfl | exact St.rowAt st 2 rfl rfl | exact St.rowAt st 3 rfl rfl | fail)
    | ((with_reducible apply exr5); case h => first | exact St.rowAt st 0 rfl rfl | exact St.rowAt st 1 rfl rfl | exact St.rowAt st 2 rfl rfl | exact St.rowAt st 3 rfl rfl | fail)
    | ((with_reducible apply exr6); case h => first | exact St.rowAt st 0 rfl rfl | exact St.rowAt st 1 rfl rfl | exact St.rowAt st 2 rfl rfl | exact St.rowAt st 3 rfl rfl | fail)
    | with_reducible refine LetI.id (by omega) (by omega) ?_
    | with_reducible refine Br.dec (fun h => ?_) (fun h => ?_)
    | with_reducible refine Br.eqi (fun h => ?_) (fun h => ?_)
    | with_reducible refine Br.nei (fun h => ?_) (fun h => ?_)
    | with_reducible refine Br.eqs' (fun h => ?_) (fun h => ?_)
    | with_reducible refine Br.eqs (fun h => ?_) (fun h => ?_)
    | with_reducible refine Br.not ?_
    | with_reducible refine Br.and_ ?_
    | with_reducible refine Br.sure rfl ?_
    | with_reducible refine Br.nay rfl ?_
    | with_reducible refine Br.eqb (fun h => ?_) (fun h => ?_)
    | with_reducible refine Br.bool (fun h => ?_) (fun h => ?_)
    | fail
  all_goals refine ⟨?_, st.kp⟩
  all_goals clear st l1 l2 l3 hl
  all_goals simp_all [getO, opOf, valCut, verUn, Opn.none, mk_nil]
set_option maxHeartbeats 1000000 in
theorem roget_pu {l : List UInt8} (hl : l.length ≤ 1099511627776) : Pu Try.prog 24 #[.string (mk l)] (.tuple #[opV (getO l).1, .int .i64 (getO l).2]) := by
  intro w0
  have st : St No w0 w0 [] := St.start w0
  have l1 := un_len l
  have l2 := cut_len (unN l).2.1
  have l3 := cut_len (cutN (unN l).2.1).2.1
  refine roget_ok _ _ _ ?_
  unfold roget
  rw [← rgetO_eq]
  repeat' first
    | (with_reducible refine St.alloc st ?_; (try clear st); intro b w st)
    | with_reducible refine sz_and (by (repeat rw [ByteArray.size_append]); omega) ?_
    | (refine Pu.go (runint_pu (by omega)) st ?_; (try clear st); intro w st; refine ⟨_, _, _, rfl, ?_⟩)
    | (refine Pu.go (rcut_pu (by omega)) st ?_; (try clear st); intro w st; refine ⟨_, _, _, rfl, ?_⟩)
    | (refine Pu.go (roput_pu ⟨(unN l).1, (cutN (unN l).2.1).1, _, _⟩) st ?_; (try clear st); intro w st; refine ⟨_, _, rfl, ?_⟩)
    | (with_reducible apply ex0c; case h => first | exact St.cell st 0 rfl rfl | exact St.cell st 1 rfl rfl | exact St.cell st 2 rfl rfl | exact St.cell st 3 rfl rfl | fail)
    | (with_reducible apply ex1c; case h => first | exact St.cell st 0 rfl rfl | exact St.cell st 1 rfl rfl | exact St.cell st 2 rfl rfl | exact St.cell st 3 rfl rfl | fail)
    | (with_reducible apply ex3c; case h => first | exact St.cell st 0 rfl rfl | exact St.cell st 1 rfl rfl | exact St.cell st 2 rfl rfl | exact St.cell st 3 rfl rfl | fail)
    | (with_reducible apply ex0r; case h => first | exact St.rows st 0 rfl | exact St.rows st 1 rfl | exact St.rows st 2 rfl | exact St.rows st 3 rfl | fail)
    | (with_reducible apply exr2; case h => first | exact St.rows st 0 rfl | exact St.rows st 1 rfl | exact St.rows st 2 rfl | exact St.rows st 3 rfl | fail)
    | (with_reducible apply exr3; case h => first | exact St.rows st 0 rfl | exact St.rows st 1 rfl | exact St.rows st 2 rfl | exact St.rows st 3 rfl | fail)
    | (with_reducible apply exr4; case h => first | exact St.rows st 0 rfl | exact St.rows st 1 rfl | exact St.rows st 2 rfl | exact St.rows st 3 rfl | fail)
    | (with_reducible apply exr5; case h => first | exact St.rows st 0 rfl | exact St.rows st 1 rfl | exact St.rows st 2 rfl | exact St.rows st 3 rfl | fail)
    | (with_reducible apply exr6; case h => first | exact St.rows st 0 rfl | exact St.rows st 1 rfl | exact St.rows st 2 rfl | exact St.rows st 3 rfl | fail)
    | (with_reducible apply exWr; case h => first | exact St.wr st 0 rfl rfl | exact St.wr st 1 rfl rfl | exact St.wr st 2 rfl rfl | exact St.wr st 3 rfl rfl | fail)
    | (with_reducible apply exWrRow; case h => first | exact St.wrRow st 0 rfl rfl rfl | exact St.wrRow st 1 rfl rfl rfl | exact St.wrRow st 2 rfl rfl rfl | exact St.wrRow st 3 rfl rfl rfl | fail)
    | (with_reducible refine LetW.cell ?_; (first | refine St.store st 0 rfl ?_ | refine St.store st 1 rfl ?_ | refine St.store st 2 rfl ?_ | refine St.store st 3 rfl ?_ | fail); (try clear st); intro w st; simp only [List.set] at st)
    | (with_reducible refine LetW.rows ?_; (first | refine St.storeRow st 0 rfl ?_ | refine St.storeRow st 1 rfl ?_ | refine St.storeRow st 2 rfl ?_ | refine St.storeRow st 3 rfl ?_ | fail); (try clear st); intro w st; simp only [List.set, setsL] at st)
    | ((with_reducible apply exr4); case h => first | exact St.rowAt st 0 rfl rfl | exact St.rowAt st 1 rfl rfl | exact St.rowAt st 2 rfl rfl | exact St.rowAt st 3 rfl rfl | fail)
    | ((with_reducible apply exr5); case h => first | exact St.rowAt st 0 rfl rfl | exact St.rowAt st 1 rfl rfl | exact St.rowAt st 2 rfl rfl | exact St.rowAt st 3 rfl rfl | fail)
    | ((with_reducible apply exr6); case h => first | exact St.rowAt st 0 rfl rfl | exact St.rowAt st 1 rfl rfl | exact St.rowAt st 2 rfl rfl | exact St.rowAt st 3 rfl rfl | fail)
    | with_reducible refine LetI.id (by omega) (by omega) ?_
    | with_reducible refine Br.dec (fun h => ?_) (fun h => ?_)
    | with_reducible refine Br.eqi (fun h => ?_) (fun h => ?_)
    | with_reducible refine Br.nei (fun h => ?_) (fun h => ?_)
    | with_reducible refine Br.eqs' (fun h => ?_) (fun h => ?_)
    | with_reducible refine Br.eqs (fun h => ?_) (fun h => ?_)
    | with_reducible refine Br.not ?_
    | with_reducible refine Br.and_ ?_
    | with_reducible refine Br.sure rfl ?_
    | with_reducible refine Br.nay rfl ?_
    | with_reducible refine Br.eqb (fun h => ?_) (fun h => ?_)
    | with_reducible refine Br.bool (fun h => ?_) (fun h => ?_)
    | fail
  all_goals refine ⟨?_, st.kp⟩
  all_goals clear st l1 l2 l3 hl
  all_goals simp_all [rgetO, opSeems, Opn.none, mk_nil]
end Go.Proofs.Ytbdhdjbdooccoaa
