/- The laws of chapter 09: what they tell is true for every input. -/
import Derived.Test.YtbdhdjbdooccoaaOB
namespace Go.Proofs.Ytbdhdjbdooccoaa
open Go.Vc Go.Codec

theorem ogreat_pu (o : Opn) : Pu Try.prog 14 #[opV o] (.bool (decide (300 < o.key.length ∨ 300 < o.val.length))) := by
  intro w0
  have st : St No w0 w0 [] := St.start w0
  have e1 : (mk o.key).size = o.key.length := rfl
  have e2 : (mk o.val).size = o.val.length := rfl
  refine ogreat_ok _ _ _ _ _ _ ?_
  unfold ogreat
  repeat' first
    | (with_reducible refine St.alloc st ?_; clear st; intro b w st)
    | with_reducible refine sz_and (by (repeat rw [ByteArray.size_append]); omega) ?_
    | refine ⟨St.cell st 0 rfl rfl, ?_⟩
    | refine ⟨_, St.cell st 0 rfl rfl, ?_⟩
    | refine ⟨_, _, St.cell st 0 rfl rfl, ?_⟩
    | refine ⟨_, _, _, St.cell st 0 rfl rfl, ?_⟩
    | refine ⟨St.cell st 1 rfl rfl, ?_⟩
    | refine ⟨_, St.cell st 1 rfl rfl, ?_⟩
    | refine ⟨_, _, St.cell st 1 rfl rfl, ?_⟩
    | refine ⟨_, _, _, St.cell st 1 rfl rfl, ?_⟩
    | refine ⟨St.cell st 2 rfl rfl, ?_⟩
    | refine ⟨_, St.cell st 2 rfl rfl, ?_⟩
    | refine ⟨_, _, St.cell st 2 rfl rfl, ?_⟩
    | refine ⟨_, _, _, St.cell st 2 rfl rfl, ?_⟩
    | refine ⟨St.cell st 3 rfl rfl, ?_⟩
    | refine ⟨_, St.cell st 3 rfl rfl, ?_⟩
    | refine ⟨_, _, St.cell st 3 rfl rfl, ?_⟩
    | refine ⟨_, _, _, St.cell st 3 rfl rfl, ?_⟩
    | refine ⟨St.rows st 0 rfl, ?_⟩
    | refine ⟨_, _, St.rows st 0 rfl, ?_⟩
    | refine ⟨_, _, _, St.rows st 0 rfl, ?_⟩
    | refine ⟨_, _, _, _, St.rows st 0 rfl, ?_⟩
    | refine ⟨_, _, _, _, _, St.rows st 0 rfl, ?_⟩
    | refine ⟨_, _, _, _, _, _, St.rows st 0 rfl, ?_⟩
    | refine ⟨_, _, _, _, _, _, _, St.rows st 0 rfl, ?_⟩
    | refine ⟨_, _, _, _, _, _, _, _, St.rows st 0 rfl, ?_⟩
    | refine ⟨St.rows st 1 rfl, ?_⟩
    | refine ⟨_, _, St.rows st 1 rfl, ?_⟩
    | refine ⟨_, _, _, St.rows st 1 rfl, ?_⟩
    | refine ⟨_, _, _, _, St.rows st 1 rfl, ?_⟩
    | refine ⟨_, _, _, _, _, St.rows st 1 rfl, ?_⟩
    | refine ⟨_, _, _, _, _, _, St.rows st 1 rfl, ?_⟩
    | refine ⟨_, _, _, _, _, _, _, St.rows st 1 rfl, ?_⟩
    | refine ⟨_, _, _, _, _, _, _, _, St.rows st 1 rfl, ?_⟩
    | refine ⟨St.rows st 2 rfl, ?_⟩
    | refine ⟨_, _, St.rows st 2 rfl, ?_⟩
    | refine ⟨_, _, _, St.rows st 2 rfl, ?_⟩
    | refine ⟨_, _, _, _, St.rows st 2 rfl, ?_⟩
    | refine ⟨_, _, _, _, _, St.rows st 2 rfl, ?_⟩
    | refine ⟨_, _, _, _, _, _, St.rows st 2 rfl, ?_⟩
    | refine ⟨_, _, _, _, _, _, _, St.rows st 2 rfl, ?_⟩
    | refine ⟨_, _, _, _, _, _, _, _, St.rows st 2 rfl, ?_⟩
    | refine ⟨St.rows st 3 rfl, ?_⟩
    | refine ⟨_, _, St.rows st 3 rfl, ?_⟩
    | refine ⟨_, _, _, St.rows st 3 rfl, ?_⟩
    | refine ⟨_, _, _, _, St.rows st 3 rfl, ?_⟩
    | refine ⟨_, _, _, _, _, St.rows st 3 rfl, ?_⟩
    | refine ⟨_, _, _, _, _, _, St.rows st 3 rfl, ?_⟩
    | refine ⟨_, _, _, _, _, _, _, St.rows st 3 rfl, ?_⟩
    | refine ⟨_, _, _, _, _, _, _, _, St.rows st 3 rfl, ?_⟩
    | (refine ⟨St.wr st 0 rfl rfl, St.store st 0 rfl ?_⟩; clear st; intro w st; simp only [List.set] at st)
    | (refine ⟨St.wrRow st 0 rfl rfl rfl, St.storeRow st 0 rfl ?_⟩; clear st; intro w st; simp only [List.set, setsL] at st)
    | (refine ⟨St.wr st 1 rfl rfl, St.store st 1 rfl ?_⟩; clear st; intro w st; simp only [List.set] at st)
    | (refine ⟨St.wrRow st 1 rfl rfl rfl, St.storeRow st 1 rfl ?_⟩; clear st; intro w st; simp only [List.set, setsL] at st)
    | (refine ⟨St.wr st 2 rfl rfl, St.store st 2 rfl ?_⟩; clear st; intro w st; simp only [List.set] at st)
    | (refine ⟨St.wrRow st 2 rfl rfl rfl, St.storeRow st 2 rfl ?_⟩; clear st; intro w st; simp only [List.set, setsL] at st)
    | (refine ⟨St.wr st 3 rfl rfl, St.store st 3 rfl ?_⟩; clear st; intro w st; simp only [List.set] at st)
    | (refine ⟨St.wrRow st 3 rfl rfl rfl, St.storeRow st 3 rfl ?_⟩; clear st; intro w st; simp only [List.set, setsL] at st)
    | with_reducible refine LetI.id (by omega) (by omega) ?_
    | with_reducible refine Br.dec (fun h => ?_) (fun h => ?_)
    | with_reducible refine Br.eqi (fun h => ?_) (fun h => ?_)
    | with_reducible refine Br.nei (fun h => ?_) (fun h => ?_)
    | with_reducible refine Br.eqs' (fun h => ?_) (fun h => ?_)
    | with_reducible refine Br.eqs (fun h => ?_) (fun h => ?_)
    | with_reducible refine Br.not ?_
    | with_reducible refine Br.and_ ?_
    | with_reducible refine Br.sure rfl ?_
    | with_reducible refine Br.nay rfl ?_
    | with_reducible refine Br.eqb (fun h => ?_) (fun h => ?_)
    | with_reducible refine Br.bool (fun h => ?_) (fun h => ?_)
  all_goals refine ⟨?_, st.kp⟩
  all_goals refine congrArg (fun b => Ending.returned (Value.bool b)) ?_
  · exact (decide_eq_true (by omega)).symm
  · exact Bool.eq_iff_iff.2 ⟨fun h' => decide_eq_true (by have := of_decide_eq_true h'; omega), fun h' => decide_eq_true (by have := of_decide_eq_true h'; omega)⟩
theorem told_put : putO ⟨2, [107], [118], 0⟩ = ([3, 1, 107, 1, 118], 0) := by simp [putO, chkO, encO, encI, encT, encN]
theorem told_cost : costO ⟨2, [107], [118], 0⟩ = 18 := by simp [costO, chkO]
theorem told_pu : Pu Try.prog 15 #[] (.bool true) := by
  intro w0
  have st : St No w0 w0 [] := St.start w0
  refine told_ok _ _ ?_
  unfold told
  repeat' first
    | (with_reducible refine St.alloc st ?_; clear st; intro b w st)
    | with_reducible refine sz_and (by (repeat rw [ByteArray.size_append]); omega) ?_
    | (refine Pu.go (oput_pu ⟨2, [107], [118], 0⟩) st ?_; clear st; intro w st; refine ⟨_, _, rfl, ?_⟩)
    | (refine Pu.go (ocost_pu ⟨2, [107], [118], 0⟩) st ?_; clear st; intro w st; refine ⟨_, rfl, ?_⟩)
    | (refine Pu.go (ocheck_pu ⟨1, [107], [118], 0⟩) st ?_; clear st; intro w st; refine ⟨_, rfl, ?_⟩)
    | (refine Pu.go (ocheck_pu ⟨1, [48, 49, 50, 51, 52, 53, 54, 55, 56, 57, 48, 49, 50, 51, 52, 53, 54], [], 0⟩) st ?_; clear st; intro w st; refine ⟨_, rfl, ?_⟩)
    | refine ⟨St.cell st 0 rfl rfl, ?_⟩
    | refine ⟨_, St.cell st 0 rfl rfl, ?_⟩
    | refine ⟨_, _, St.cell st 0 rfl rfl, ?_⟩
    | refine ⟨_, _, _, St.cell st 0 rfl rfl, ?_⟩
    | refine ⟨St.cell st 1 rfl rfl, ?_⟩
    | refine ⟨_, St.cell st 1 rfl rfl, ?_⟩
    | refine ⟨_, _, St.cell st 1 rfl rfl, ?_⟩
    | refine ⟨_, _, _, St.cell st 1 rfl rfl, ?_⟩
    | refine ⟨St.cell st 2 rfl rfl, ?_⟩
    | refine ⟨_, St.cell st 2 rfl rfl, ?_⟩
    | refine ⟨_, _, St.cell st 2 rfl rfl, ?_⟩
    | refine ⟨_, _, _, St.cell st 2 rfl rfl, ?_⟩
    | refine ⟨St.cell st 3 rfl rfl, ?_⟩
    | refine ⟨_, St.cell st 3 rfl rfl, ?_⟩
    | refine ⟨_, _, St.cell st 3 rfl rfl, ?_⟩
    | refine ⟨_, _, _, St.cell st 3 rfl rfl, ?_⟩
    | refine ⟨St.rows st 0 rfl, ?_⟩
    | refine ⟨_, _, St.rows st 0 rfl, ?_⟩
    | refine ⟨_, _, _, St.rows st 0 rfl, ?_⟩
    | refine ⟨_, _, _, _, St.rows st 0 rfl, ?_⟩
    | refine ⟨_, _, _, _, _, St.rows st 0 rfl, ?_⟩
    | refine ⟨_, _, _, _, _, _, St.rows st 0 rfl, ?_⟩
    | refine ⟨_, _, _, _, _, _, _, St.rows st 0 rfl, ?_⟩
    | refine ⟨_, _, _, _, _, _, _, _, St.rows st 0 rfl, ?_⟩
    | refine ⟨St.rows st 1 rfl, ?_⟩
    | refine ⟨_, _, St.rows st 1 rfl, ?_⟩
    | refine ⟨_, _, _, St.rows st 1 rfl, ?_⟩
    | refine ⟨_, _, _, _, St.rows st 1 rfl, ?_⟩
    | refine ⟨_, _, _, _, _, St.rows st 1 rfl, ?_⟩
    | refine ⟨_, _, _, _, _, _, St.rows st 1 rfl, ?_⟩
    | refine ⟨_, _, _, _, _, _, _, St.rows st 1 rfl, ?_⟩
    | refine ⟨_, _, _, _, _, _, _, _, St.rows st 1 rfl, ?_⟩
    | refine ⟨St.rows st 2 rfl, ?_⟩
    | refine ⟨_, _, St.rows st 2 rfl, ?_⟩
    | refine ⟨_, _, _, St.rows st 2 rfl, ?_⟩
    | refine ⟨_, _, _, _, St.rows st 2 rfl, ?_⟩
    | refine ⟨_, _, _, _, _, St.rows st 2 rfl, ?_⟩
    | refine ⟨_, _, _, _, _, _, St.rows st 2 rfl, ?_⟩
    | refine ⟨_, _, _, _, _, _, _, St.rows st 2 rfl, ?_⟩
    | refine ⟨_, _, _, _, _, _, _, _, St.rows st 2 rfl, ?_⟩
    | refine ⟨St.rows st 3 rfl, ?_⟩
    | refine ⟨_, _, St.rows st 3 rfl, ?_⟩
    | refine ⟨_, _, _, St.rows st 3 rfl, ?_⟩
    | refine ⟨_, _, _, _, St.rows st 3 rfl, ?_⟩
    | refine ⟨_, _, _, _, _, St.rows st 3 rfl, ?_⟩
    | refine ⟨_, _, _, _, _, _, St.rows st 3 rfl, ?_⟩
    | refine ⟨_, _, _, _, _, _, _, St.rows st 3 rfl, ?_⟩
    | refine ⟨_, _, _, _, _, _, _, _, St.rows st 3 rfl, ?_⟩
    | (refine ⟨St.wr st 0 rfl rfl, St.store st 0 rfl ?_⟩; clear st; intro w st; simp only [List.set] at st)
    | (refine ⟨St.wrRow st 0 rfl rfl rfl, St.storeRow st 0 rfl ?_⟩; clear st; intro w st; simp only [List.set, setsL] at st)
    | (refine ⟨St.wr st 1 rfl rfl, St.store st 1 rfl ?_⟩; clear st; intro w st; simp only [List.set] at st)
    | (refine ⟨St.wrRow st 1 rfl rfl rfl, St.storeRow st 1 rfl ?_⟩; clear st; intro w st; simp only [List.set, setsL] at st)
    | (refine ⟨St.wr st 2 rfl rfl, St.store st 2 rfl ?_⟩; clear st; intro w st; simp only [List.set] at st)
    | (refine ⟨St.wrRow st 2 rfl rfl rfl, St.storeRow st 2 rfl ?_⟩; clear st; intro w st; simp only [List.set, setsL] at st)
    | (refine ⟨St.wr st 3 rfl rfl, St.store st 3 rfl ?_⟩; clear st; intro w st; simp only [List.set] at st)
    | (refine ⟨St.wrRow st 3 rfl rfl rfl, St.storeRow st 3 rfl ?_⟩; clear st; intro w st; simp only [List.set, setsL] at st)
    | with_reducible refine LetI.id (by omega) (by omega) ?_
    | with_reducible refine Br.dec (fun h => ?_) (fun h => ?_)
    | with_reducible refine Br.eqi (fun h => ?_) (fun h => ?_)
    | with_reducible refine Br.nei (fun h => ?_) (fun h => ?_)
    | with_reducible refine Br.eqs' (fun h => ?_) (fun h => ?_)
    | with_reducible refine Br.eqs (fun h => ?_) (fun h => ?_)
    | with_reducible refine Br.not ?_
    | with_reducible refine Br.and_ ?_
    | with_reducible refine Br.sure rfl ?_
    | with_reducible refine Br.nay rfl ?_
    | with_reducible refine Br.eqb (fun h => ?_) (fun h => ?_)
    | with_reducible refine Br.bool (fun h => ?_) (fun h => ?_)
  all_goals first
    | (refine ⟨?_, st.kp⟩; simp [chkO]; done)
    | (exfalso; rw [told_put] at h; exact h rfl)
    | (exfalso; rw [told_cost] at h; exact h rfl)
    | exact absurd (by simp [chkO]) h
set_option maxHeartbeats 1000000 in
theorem lawOTell_pu (o : Opn) : Pu Try.prog 3 #[opV o] (.bool true) := by
  intro w0
  have st : St No w0 w0 [] := St.start w0
  refine lawOTell_ok _ _ _ _ _ _ ?_
  unfold lawOTell
  repeat' first
    | (with_reducible refine St.alloc st ?_; clear st; intro b w st)
    | with_reducible refine sz_and (by (repeat rw [ByteArray.size_append]); omega) ?_
    | (refine Pu.go (ogreat_pu o) st ?_; clear st; intro w st; refine ⟨_, rfl, ?_⟩)
    | (refine Pu.go (told_pu) st ?_; clear st; intro w st; refine ⟨_, rfl, ?_⟩)
    | refine ⟨St.cell st 0 rfl rfl, ?_⟩
    | refine ⟨_, St.cell st 0 rfl rfl, ?_⟩
    | refine ⟨_, _, St.cell st 0 rfl rfl, ?_⟩
    | refine ⟨_, _, _, St.cell st 0 rfl rfl, ?_⟩
    | refine ⟨St.cell st 1 rfl rfl, ?_⟩
    | refine ⟨_, St.cell st 1 rfl rfl, ?_⟩
    | refine ⟨_, _, St.cell st 1 rfl rfl, ?_⟩
    | refine ⟨_, _, _, St.cell st 1 rfl rfl, ?_⟩
    | refine ⟨St.cell st 2 rfl rfl, ?_⟩
    | refine ⟨_, St.cell st 2 rfl rfl, ?_⟩
    | refine ⟨_, _, St.cell st 2 rfl rfl, ?_⟩
    | refine ⟨_, _, _, St.cell st 2 rfl rfl, ?_⟩
    | refine ⟨St.cell st 3 rfl rfl, ?_⟩
    | refine ⟨_, St.cell st 3 rfl rfl, ?_⟩
    | refine ⟨_, _, St.cell st 3 rfl rfl, ?_⟩
    | refine ⟨_, _, _, St.cell st 3 rfl rfl, ?_⟩
    | refine ⟨St.rows st 0 rfl, ?_⟩
    | refine ⟨_, _, St.rows st 0 rfl, ?_⟩
    | refine ⟨_, _, _, St.rows st 0 rfl, ?_⟩
    | refine ⟨_, _, _, _, St.rows st 0 rfl, ?_⟩
    | refine ⟨_, _, _, _, _, St.rows st 0 rfl, ?_⟩
    | refine ⟨_, _, _, _, _, _, St.rows st 0 rfl, ?_⟩
    | refine ⟨_, _, _, _, _, _, _, St.rows st 0 rfl, ?_⟩
    | refine ⟨_, _, _, _, _, _, _, _, St.rows st 0 rfl, ?_⟩
    | refine ⟨St.rows st 1 rfl, ?_⟩
    | refine ⟨_, _, St.rows st 1 rfl, ?_⟩
    | refine ⟨_, _, _, St.rows st 1 rfl, ?_⟩
    | refine ⟨_, _, _, _, St.rows st 1 rfl, ?_⟩
    | refine ⟨_, _, _, _, _, St.rows st 1 rfl, ?_⟩
    | refine ⟨_, _, _, _, _, _, St.rows st 1 rfl, ?_⟩
    | refine ⟨_, _, _, _, _, _, _, St.rows st 1 rfl, ?_⟩
    | refine ⟨_, _, _, _, _, _, _, _, St.rows st 1 rfl, ?_⟩
    | refine ⟨St.rows st 2 rfl, ?_⟩
    | refine ⟨_, _, St.rows st 2 rfl, ?_⟩
    | refine ⟨_, _, _, St.rows st 2 rfl, ?_⟩
    | refine ⟨_, _, _, _, St.rows st 2 rfl, ?_⟩
    | refine ⟨_, _, _, _, _, St.rows st 2 rfl, ?_⟩
    | refine ⟨_, _, _, _, _, _, St.rows st 2 rfl, ?_⟩
    | refine ⟨_, _, _, _, _, _, _, St.rows st 2 rfl, ?_⟩
    | refine ⟨_, _, _, _, _, _, _, _, St.rows st 2 rfl, ?_⟩
    | refine ⟨St.rows st 3 rfl, ?_⟩
    | refine ⟨_, _, St.rows st 3 rfl, ?_⟩
    | refine ⟨_, _, _, St.rows st 3 rfl, ?_⟩
    | refine ⟨_, _, _, _, St.rows st 3 rfl, ?_⟩
    | refine ⟨_, _, _, _, _, St.rows st 3 rfl, ?_⟩
    | refine ⟨_, _, _, _, _, _, St.rows st 3 rfl, ?_⟩
    | refine ⟨_, _, _, _, _, _, _, St.rows st 3 rfl, ?_⟩
    | refine ⟨_, _, _, _, _, _, _, _, St.rows st 3 rfl, ?_⟩
    | (refine ⟨St.wr st 0 rfl rfl, St.store st 0 rfl ?_⟩; clear st; intro w st; simp only [List.set] at st)
    | (refine ⟨St.wrRow st 0 rfl rfl rfl, St.storeRow st 0 rfl ?_⟩; clear st; intro w st; simp only [List.set, setsL] at st)
    | (refine ⟨St.wr st 1 rfl rfl, St.store st 1 rfl ?_⟩; clear st; intro w st; simp only [List.set] at st)
    | (refine ⟨St.wrRow st 1 rfl rfl rfl, St.storeRow st 1 rfl ?_⟩; clear st; intro w st; simp only [List.set, setsL] at st)
    | (refine ⟨St.wr st 2 rfl rfl, St.store st 2 rfl ?_⟩; clear st; intro w st; simp only [List.set] at st)
    | (refine ⟨St.wrRow st 2 rfl rfl rfl, St.storeRow st 2 rfl ?_⟩; clear st; intro w st; simp only [List.set, setsL] at st)
    | (refine ⟨St.wr st 3 rfl rfl, St.store st 3 rfl ?_⟩; clear st; intro w st; simp only [List.set] at st)
    | (refine ⟨St.wrRow st 3 rfl rfl rfl, St.storeRow st 3 rfl ?_⟩; clear st; intro w st; simp only [List.set, setsL] at st)
    | with_reducible refine LetI.id (by omega) (by omega) ?_
    | with_reducible refine Br.dec (fun h => ?_) (fun h => ?_)
    | with_reducible refine Br.eqi (fun h => ?_) (fun h => ?_)
    | with_reducible refine Br.nei (fun h => ?_) (fun h => ?_)
    | with_reducible refine Br.eqs' (fun h => ?_) (fun h => ?_)
    | with_reducible refine Br.eqs (fun h => ?_) (fun h => ?_)
    | with_reducible refine Br.not ?_
    | with_reducible refine Br.and_ ?_
    | with_reducible refine Br.sure rfl ?_
    | with_reducible refine Br.nay rfl ?_
    | with_reducible refine Br.eqb (fun h => ?_) (fun h => ?_)
    | with_reducible refine Br.bool (fun h => ?_) (fun h => ?_)
  · exact ⟨rfl, st.kp⟩
  clear h
  refine ⟨fun k l w' => ∃ j : Nat, l = [.bool false, .int .i64 (j : Int)] ∧ k = 7 - j ∧ j ≤ 7 ∧ St No w0 w' [.blk b 23 [.int .i64 o.kind, .string (mk o.key), .string (mk o.val), .int .i64 o.ver]], ⟨7, 0, rfl, rfl, by omega, st⟩, ?_⟩
  clear st
  rintro _ _ _ w ⟨j, hl, rfl, hj, st⟩
  obtain ⟨rfl, rfl⟩ : _ ∧ _ := by simpa using hl
  clear hl
  repeat' first
    | (with_reducible refine St.alloc st ?_; clear st; intro b w st)
    | with_reducible refine sz_and (by (repeat rw [ByteArray.size_append]); omega) ?_
    | (refine Pu.go (oput_pu ⟨_, _, _, _⟩) st ?_; clear st; intro w st; refine ⟨_, _, rfl, ?_⟩)
    | (refine Pu.go (roput_pu ⟨_, _, _, _⟩) st ?_; clear st; intro w st; refine ⟨_, _, rfl, ?_⟩)
    | (refine Pu.go (ocheck_pu ⟨_, _, _, _⟩) st ?_; clear st; intro w st; refine ⟨_, rfl, ?_⟩)
    | (refine Pu.go (rocheck_pu ⟨_, _, _, _⟩) st ?_; clear st; intro w st; refine ⟨_, rfl, ?_⟩)
    | (refine Pu.go (ocost_pu ⟨_, _, _, _⟩) st ?_; clear st; intro w st; refine ⟨_, rfl, ?_⟩)
    | (refine Pu.go (rocost_pu ⟨_, _, _, _⟩) st ?_; clear st; intro w st; refine ⟨_, rfl, ?_⟩)
    | (refine Pu.go (oreads_pu ⟨_, _, _, _⟩) st ?_; clear st; intro w st; refine ⟨_, rfl, ?_⟩)
    | (refine Pu.go (told_pu) st ?_; clear st; intro w st; refine ⟨_, rfl, ?_⟩)
    | refine ⟨St.cell st 0 rfl rfl, ?_⟩
    | refine ⟨_, St.cell st 0 rfl rfl, ?_⟩
    | refine ⟨_, _, St.cell st 0 rfl rfl, ?_⟩
    | refine ⟨_, _, _, St.cell st 0 rfl rfl, ?_⟩
    | refine ⟨St.cell st 1 rfl rfl, ?_⟩
    | refine ⟨_, St.cell st 1 rfl rfl, ?_⟩
    | refine ⟨_, _, St.cell st 1 rfl rfl, ?_⟩
    | refine ⟨_, _, _, St.cell st 1 rfl rfl, ?_⟩
    | refine ⟨St.cell st 2 rfl rfl, ?_⟩
    | refine ⟨_, St.cell st 2 rfl rfl, ?_⟩
    | refine ⟨_, _, St.cell st 2 rfl rfl, ?_⟩
    | refine ⟨_, _, _, St.cell st 2 rfl rfl, ?_⟩
    | refine ⟨St.cell st 3 rfl rfl, ?_⟩
    | refine ⟨_, St.cell st 3 rfl rfl, ?_⟩
    | refine ⟨_, _, St.cell st 3 rfl rfl, ?_⟩
    | refine ⟨_, _, _, St.cell st 3 rfl rfl, ?_⟩
    | refine ⟨St.rows st 0 rfl, ?_⟩
    | refine ⟨_, _, St.rows st 0 rfl, ?_⟩
    | refine ⟨_, _, _, St.rows st 0 rfl, ?_⟩
    | refine ⟨_, _, _, _, St.rows st 0 rfl, ?_⟩
    | refine ⟨_, _, _, _, _, St.rows st 0 rfl, ?_⟩
    | refine ⟨_, _, _, _, _, _, St.rows st 0 rfl, ?_⟩
    | refine ⟨_, _, _, _, _, _, _, St.rows st 0 rfl, ?_⟩
    | refine ⟨_, _, _, _, _, _, _, _, St.rows st 0 rfl, ?_⟩
    | refine ⟨St.rows st 1 rfl, ?_⟩
    | refine ⟨_, _, St.rows st 1 rfl, ?_⟩
    | refine ⟨_, _, _, St.rows st 1 rfl, ?_⟩
    | refine ⟨_, _, _, _, St.rows st 1 rfl, ?_⟩
    | refine ⟨_, _, _, _, _, St.rows st 1 rfl, ?_⟩
    | refine ⟨_, _, _, _, _, _, St.rows st 1 rfl, ?_⟩
    | refine ⟨_, _, _, _, _, _, _, St.rows st 1 rfl, ?_⟩
    | refine ⟨_, _, _, _, _, _, _, _, St.rows st 1 rfl, ?_⟩
    | refine ⟨St.rows st 2 rfl, ?_⟩
    | refine ⟨_, _, St.rows st 2 rfl, ?_⟩
    | refine ⟨_, _, _, St.rows st 2 rfl, ?_⟩
    | refine ⟨_, _, _, _, St.rows st 2 rfl, ?_⟩
    | refine ⟨_, _, _, _, _, St.rows st 2 rfl, ?_⟩
    | refine ⟨_, _, _, _, _, _, St.rows st 2 rfl, ?_⟩
    | refine ⟨_, _, _, _, _, _, _, St.rows st 2 rfl, ?_⟩
    | refine ⟨_, _, _, _, _, _, _, _, St.rows st 2 rfl, ?_⟩
    | refine ⟨St.rows st 3 rfl, ?_⟩
    | refine ⟨_, _, St.rows st 3 rfl, ?_⟩
    | refine ⟨_, _, _, St.rows st 3 rfl, ?_⟩
    | refine ⟨_, _, _, _, St.rows st 3 rfl, ?_⟩
    | refine ⟨_, _, _, _, _, St.rows st 3 rfl, ?_⟩
    | refine ⟨_, _, _, _, _, _, St.rows st 3 rfl, ?_⟩
    | refine ⟨_, _, _, _, _, _, _, St.rows st 3 rfl, ?_⟩
    | refine ⟨_, _, _, _, _, _, _, _, St.rows st 3 rfl, ?_⟩
    | (refine ⟨St.wr st 0 rfl rfl, St.store st 0 rfl ?_⟩; clear st; intro w st; simp only [List.set] at st)
    | (refine ⟨St.wrRow st 0 rfl rfl rfl, St.storeRow st 0 rfl ?_⟩; clear st; intro w st; simp only [List.set, setsL] at st)
    | (refine ⟨St.wr st 1 rfl rfl, St.store st 1 rfl ?_⟩; clear st; intro w st; simp only [List.set] at st)
    | (refine ⟨St.wrRow st 1 rfl rfl rfl, St.storeRow st 1 rfl ?_⟩; clear st; intro w st; simp only [List.set, setsL] at st)
    | (refine ⟨St.wr st 2 rfl rfl, St.store st 2 rfl ?_⟩; clear st; intro w st; simp only [List.set] at st)
    | (refine ⟨St.wrRow st 2 rfl rfl rfl, St.storeRow st 2 rfl ?_⟩; clear st; intro w st; simp only [List.set, setsL] at st)
    | (refine ⟨St.wr st 3 rfl rfl, St.store st 3 rfl ?_⟩; clear st; intro w st; simp only [List.set] at st)
    | (refine ⟨St.wrRow st 3 rfl rfl rfl, St.storeRow st 3 rfl ?_⟩; clear st; intro w st; simp only [List.set, setsL] at st)
    | with_reducible refine LetI.id (by omega) (by omega) ?_
    | exact absurd rfl h
    | with_reducible refine Br.dec (fun h => ?_) (fun h => ?_)
    | with_reducible refine Br.eqi (fun h => ?_) (fun h => ?_)
    | with_reducible refine Br.nei (fun h => ?_) (fun h => ?_)
    | with_reducible refine Br.eqs' (fun h => ?_) (fun h => ?_)
    | with_reducible refine Br.eqs (fun h => ?_) (fun h => ?_)
    | with_reducible refine Br.not ?_
    | with_reducible refine Br.and_ ?_
    | with_reducible refine Br.sure rfl ?_
    | with_reducible refine Br.nay rfl ?_
    | with_reducible refine Br.eqb (fun h => ?_) (fun h => ?_)
    | with_reducible refine Br.bool (fun h => ?_) (fun h => ?_)
  all_goals first
    | exact ⟨rfl, st.kp⟩
    | exact ⟨7 - (j + 1), by omega, j + 1, by simp, rfl, by omega, st.tail⟩
    | (exfalso; simp_all [readsO, int_beq]; done)
theorem lawOGet_pu (l : List UInt8) : Pu Try.prog 4 #[.string (mk l)] (.bool true) := by
  intro w0
  have st : St No w0 w0 [] := St.start w0
  refine lawOGet_ok _ _ _ ?_
  unfold lawOGet
  refine Br.dec (fun h => ?_) (fun h => ?_)
  · repeat' first
      | (with_reducible refine St.alloc st ?_; clear st; intro b w st)
      | with_reducible refine sz_and (by (repeat rw [ByteArray.size_append]); omega) ?_
      | (refine Pu.go (told_pu) st ?_; clear st; intro w st; refine ⟨_, rfl, ?_⟩)
      | refine ⟨St.cell st 0 rfl rfl, ?_⟩
      | refine ⟨_, St.cell st 0 rfl rfl, ?_⟩
      | refine ⟨_, _, St.cell st 0 rfl rfl, ?_⟩
      | refine ⟨_, _, _, St.cell st 0 rfl rfl, ?_⟩
      | refine ⟨St.cell st 1 rfl rfl, ?_⟩
      | refine ⟨_, St.cell st 1 rfl rfl, ?_⟩
      | refine ⟨_, _, St.cell st 1 rfl rfl, ?_⟩
      | refine ⟨_, _, _, St.cell st 1 rfl rfl, ?_⟩
      | refine ⟨St.cell st 2 rfl rfl, ?_⟩
      | refine ⟨_, St.cell st 2 rfl rfl, ?_⟩
      | refine ⟨_, _, St.cell st 2 rfl rfl, ?_⟩
      | refine ⟨_, _, _, St.cell st 2 rfl rfl, ?_⟩
      | refine ⟨St.cell st 3 rfl rfl, ?_⟩
      | refine ⟨_, St.cell st 3 rfl rfl, ?_⟩
      | refine ⟨_, _, St.cell st 3 rfl rfl, ?_⟩
      | refine ⟨_, _, _, St.cell st 3 rfl rfl, ?_⟩
      | refine ⟨St.rows st 0 rfl, ?_⟩
      | refine ⟨_, _, St.rows st 0 rfl, ?_⟩
      | refine ⟨_, _, _, St.rows st 0 rfl, ?_⟩
      | refine ⟨_, _, _, _, St.rows st 0 rfl, ?_⟩
      | refine ⟨_, _, _, _, _, St.rows st 0 rfl, ?_⟩
      | refine ⟨_, _, _, _, _, _, St.rows st 0 rfl, ?_⟩
      | refine ⟨_, _, _, _, _, _, _, St.rows st 0 rfl, ?_⟩
      | refine ⟨_, _, _, _, _, _, _, _, St.rows st 0 rfl, ?_⟩
      | refine ⟨St.rows st 1 rfl, ?_⟩
      | refine ⟨_, _, St.rows st 1 rfl, ?_⟩
      | refine ⟨_, _, _, St.rows st 1 rfl, ?_⟩
      | refine ⟨_, _, _, _, St.rows st 1 rfl, ?_⟩
      | refine ⟨_, _, _, _, _, St.rows st 1 rfl, ?_⟩
      | refine ⟨_, _, _, _, _, _, St.rows st 1 rfl, ?_⟩
      | refine ⟨_, _, _, _, _, _, _, St.rows st 1 rfl, ?_⟩
      | refine ⟨_, _, _, _, _, _, _, _, St.rows st 1 rfl, ?_⟩
      | refine ⟨St.rows st 2 rfl, ?_⟩
      | refine ⟨_, _, St.rows st 2 rfl, ?_⟩
      | refine ⟨_, _, _, St.rows st 2 rfl, ?_⟩
      | refine ⟨_, _, _, _, St.rows st 2 rfl, ?_⟩
      | refine ⟨_, _, _, _, _, St.rows st 2 rfl, ?_⟩
      | refine ⟨_, _, _, _, _, _, St.rows st 2 rfl, ?_⟩
      | refine ⟨_, _, _, _, _, _, _, St.rows st 2 rfl, ?_⟩
      | refine ⟨_, _, _, _, _, _, _, _, St.rows st 2 rfl, ?_⟩
      | refine ⟨St.rows st 3 rfl, ?_⟩
      | refine ⟨_, _, St.rows st 3 rfl, ?_⟩
      | refine ⟨_, _, _, St.rows st 3 rfl, ?_⟩
      | refine ⟨_, _, _, _, St.rows st 3 rfl, ?_⟩
      | refine ⟨_, _, _, _, _, St.rows st 3 rfl, ?_⟩
      | refine ⟨_, _, _, _, _, _, St.rows st 3 rfl, ?_⟩
      | refine ⟨_, _, _, _, _, _, _, St.rows st 3 rfl, ?_⟩
      | refine ⟨_, _, _, _, _, _, _, _, St.rows st 3 rfl, ?_⟩
      | (refine ⟨St.wr st 0 rfl rfl, St.store st 0 rfl ?_⟩; clear st; intro w st; simp only [List.set] at st)
      | (refine ⟨St.wrRow st 0 rfl rfl rfl, St.storeRow st 0 rfl ?_⟩; clear st; intro w st; simp only [List.set, setsL] at st)
      | (refine ⟨St.wr st 1 rfl rfl, St.store st 1 rfl ?_⟩; clear st; intro w st; simp only [List.set] at st)
      | (refine ⟨St.wrRow st 1 rfl rfl rfl, St.storeRow st 1 rfl ?_⟩; clear st; intro w st; simp only [List.set, setsL] at st)
      | (refine ⟨St.wr st 2 rfl rfl, St.store st 2 rfl ?_⟩; clear st; intro w st; simp only [List.set] at st)
      | (refine ⟨St.wrRow st 2 rfl rfl rfl, St.storeRow st 2 rfl ?_⟩; clear st; intro w st; simp only [List.set, setsL] at st)
      | (refine ⟨St.wr st 3 rfl rfl, St.store st 3 rfl ?_⟩; clear st; intro w st; simp only [List.set] at st)
      | (refine ⟨St.wrRow st 3 rfl rfl rfl, St.storeRow st 3 rfl ?_⟩; clear st; intro w st; simp only [List.set, setsL] at st)
      | with_reducible refine LetI.id (by omega) (by omega) ?_
      | with_reducible refine Br.dec (fun h => ?_) (fun h => ?_)
      | with_reducible refine Br.eqi (fun h => ?_) (fun h => ?_)
      | with_reducible refine Br.nei (fun h => ?_) (fun h => ?_)
      | with_reducible refine Br.eqs' (fun h => ?_) (fun h => ?_)
      | with_reducible refine Br.eqs (fun h => ?_) (fun h => ?_)
      | with_reducible refine Br.not ?_
      | with_reducible refine Br.and_ ?_
      | with_reducible refine Br.sure rfl ?_
      | with_reducible refine Br.nay rfl ?_
      | with_reducible refine Br.eqb (fun h => ?_) (fun h => ?_)
      | with_reducible refine Br.bool (fun h => ?_) (fun h => ?_)
    exact ⟨rfl, st.kp⟩
  have hl : l.length ≤ 1099511627776 := by have e1 : (mk l).size = l.length := rfl; omega
  repeat' first
    | (with_reducible refine St.alloc st ?_; clear st; intro b w st)
    | with_reducible refine sz_and (by (repeat rw [ByteArray.size_append]); omega) ?_
    | (refine Pu.go (oget_pu hl) st ?_; clear st; intro w st; refine ⟨_, _, _, _, _, rfl, ?_⟩)
    | (refine Pu.go (roget_pu hl) st ?_; clear st; intro w st; refine ⟨_, _, _, _, _, rfl, ?_⟩)
    | (refine Pu.go (told_pu) st ?_; clear st; intro w st; refine ⟨_, rfl, ?_⟩)
    | refine ⟨St.cell st 0 rfl rfl, ?_⟩
    | refine ⟨_, St.cell st 0 rfl rfl, ?_⟩
    | refine ⟨_, _, St.cell st 0 rfl rfl, ?_⟩
    | refine ⟨_, _, _, St.cell st 0 rfl rfl, ?_⟩
    | refine ⟨St.cell st 1 rfl rfl, ?_⟩
    | refine ⟨_, St.cell st 1 rfl rfl, ?_⟩
    | refine ⟨_, _, St.cell st 1 rfl rfl, ?_⟩
    | refine ⟨_, _, _, St.cell st 1 rfl rfl, ?_⟩
    | refine ⟨St.cell st 2 rfl rfl, ?_⟩
    | refine ⟨_, St.cell st 2 rfl rfl, ?_⟩
    | refine ⟨_, _, St.cell st 2 rfl rfl, ?_⟩
    | refine ⟨_, _, _, St.cell st 2 rfl rfl, ?_⟩
    | refine ⟨St.cell st 3 rfl rfl, ?_⟩
    | refine ⟨_, St.cell st 3 rfl rfl, ?_⟩
    | refine ⟨_, _, St.cell st 3 rfl rfl, ?_⟩
    | refine ⟨_, _, _, St.cell st 3 rfl rfl, ?_⟩
    | refine ⟨St.rows st 0 rfl, ?_⟩
    | refine ⟨_, _, St.rows st 0 rfl, ?_⟩
    | refine ⟨_, _, _, St.rows st 0 rfl, ?_⟩
    | refine ⟨_, _, _, _, St.rows st 0 rfl, ?_⟩
    | refine ⟨_, _, _, _, _, St.rows st 0 rfl, ?_⟩
    | refine ⟨_, _, _, _, _, _, St.rows st 0 rfl, ?_⟩
    | refine ⟨_, _, _, _, _, _, _, St.rows st 0 rfl, ?_⟩
    | refine ⟨_, _, _, _, _, _, _, _, St.rows st 0 rfl, ?_⟩
    | refine ⟨St.rows st 1 rfl, ?_⟩
    | refine ⟨_, _, St.rows st 1 rfl, ?_⟩
    | refine ⟨_, _, _, St.rows st 1 rfl, ?_⟩
    | refine ⟨_, _, _, _, St.rows st 1 rfl, ?_⟩
    | refine ⟨_, _, _, _, _, St.rows st 1 rfl, ?_⟩
    | refine ⟨_, _, _, _, _, _, St.rows st 1 rfl, ?_⟩
    | refine ⟨_, _, _, _, _, _, _, St.rows st 1 rfl, ?_⟩
    | refine ⟨_, _, _, _, _, _, _, _, St.rows st 1 rfl, ?_⟩
    | refine ⟨St.rows st 2 rfl, ?_⟩
    | refine ⟨_, _, St.rows st 2 rfl, ?_⟩
    | refine ⟨_, _, _, St.rows st 2 rfl, ?_⟩
    | refine ⟨_, _, _, _, St.rows st 2 rfl, ?_⟩
    | refine ⟨_, _, _, _, _, St.rows st 2 rfl, ?_⟩
    | refine ⟨_, _, _, _, _, _, St.rows st 2 rfl, ?_⟩
    | refine ⟨_, _, _, _, _, _, _, St.rows st 2 rfl, ?_⟩
    | refine ⟨_, _, _, _, _, _, _, _, St.rows st 2 rfl, ?_⟩
    | refine ⟨St.rows st 3 rfl, ?_⟩
    | refine ⟨_, _, St.rows st 3 rfl, ?_⟩
    | refine ⟨_, _, _, St.rows st 3 rfl, ?_⟩
    | refine ⟨_, _, _, _, St.rows st 3 rfl, ?_⟩
    | refine ⟨_, _, _, _, _, St.rows st 3 rfl, ?_⟩
    | refine ⟨_, _, _, _, _, _, St.rows st 3 rfl, ?_⟩
    | refine ⟨_, _, _, _, _, _, _, St.rows st 3 rfl, ?_⟩
    | refine ⟨_, _, _, _, _, _, _, _, St.rows st 3 rfl, ?_⟩
    | (refine ⟨St.wr st 0 rfl rfl, St.store st 0 rfl ?_⟩; clear st; intro w st; simp only [List.set] at st)
    | (refine ⟨St.wrRow st 0 rfl rfl rfl, St.storeRow st 0 rfl ?_⟩; clear st; intro w st; simp only [List.set, setsL] at st)
    | (refine ⟨St.wr st 1 rfl rfl, St.store st 1 rfl ?_⟩; clear st; intro w st; simp only [List.set] at st)
    | (refine ⟨St.wrRow st 1 rfl rfl rfl, St.storeRow st 1 rfl ?_⟩; clear st; intro w st; simp only [List.set, setsL] at st)
    | (refine ⟨St.wr st 2 rfl rfl, St.store st 2 rfl ?_⟩; clear st; intro w st; simp only [List.set] at st)
    | (refine ⟨St.wrRow st 2 rfl rfl rfl, St.storeRow st 2 rfl ?_⟩; clear st; intro w st; simp only [List.set, setsL] at st)
    | (refine ⟨St.wr st 3 rfl rfl, St.store st 3 rfl ?_⟩; clear st; intro w st; simp only [List.set] at st)
    | (refine ⟨St.wrRow st 3 rfl rfl rfl, St.storeRow st 3 rfl ?_⟩; clear st; intro w st; simp only [List.set, setsL] at st)
    | with_reducible refine LetI.id (by omega) (by omega) ?_
    | exact absurd rfl h
    | with_reducible refine Br.dec (fun h => ?_) (fun h => ?_)
    | with_reducible refine Br.eqi (fun h => ?_) (fun h => ?_)
    | with_reducible refine Br.nei (fun h => ?_) (fun h => ?_)
    | with_reducible refine Br.eqs' (fun h => ?_) (fun h => ?_)
    | with_reducible refine Br.eqs (fun h => ?_) (fun h => ?_)
    | with_reducible refine Br.not ?_
    | with_reducible refine Br.and_ ?_
    | with_reducible refine Br.sure rfl ?_
    | with_reducible refine Br.nay rfl ?_
    | with_reducible refine Br.eqb (fun h => ?_) (fun h => ?_)
    | with_reducible refine Br.bool (fun h => ?_) (fun h => ?_)
  exact ⟨rfl, st.kp⟩
theorem lawOForm_pu (l : List UInt8) : Pu Try.prog 5 #[.string (mk l)] (.bool true) := by
  intro w0
  have st : St No w0 w0 [] := St.start w0
  refine lawOForm_ok _ _ _ ?_
  unfold lawOForm
  refine Br.dec (fun h => ?_) (fun h => ?_)
  · repeat' first
      | (with_reducible refine St.alloc st ?_; clear st; intro b w st)
      | with_reducible refine sz_and (by (repeat rw [ByteArray.size_append]); omega) ?_
      | (refine Pu.go (told_pu) st ?_; clear st; intro w st; refine ⟨_, rfl, ?_⟩)
      | refine ⟨St.cell st 0 rfl rfl, ?_⟩
      | refine ⟨_, St.cell st 0 rfl rfl, ?_⟩
      | refine ⟨_, _, St.cell st 0 rfl rfl, ?_⟩
      | refine ⟨_, _, _, St.cell st 0 rfl rfl, ?_⟩
      | refine ⟨St.cell st 1 rfl rfl, ?_⟩
      | refine ⟨_, St.cell st 1 rfl rfl, ?_⟩
      | refine ⟨_, _, St.cell st 1 rfl rfl, ?_⟩
      | refine ⟨_, _, _, St.cell st 1 rfl rfl, ?_⟩
      | refine ⟨St.cell st 2 rfl rfl, ?_⟩
      | refine ⟨_, St.cell st 2 rfl rfl, ?_⟩
      | refine ⟨_, _, St.cell st 2 rfl rfl, ?_⟩
      | refine ⟨_, _, _, St.cell st 2 rfl rfl, ?_⟩
      | refine ⟨St.cell st 3 rfl rfl, ?_⟩
      | refine ⟨_, St.cell st 3 rfl rfl, ?_⟩
      | refine ⟨_, _, St.cell st 3 rfl rfl, ?_⟩
      | refine ⟨_, _, _, St.cell st 3 rfl rfl, ?_⟩
      | refine ⟨St.rows st 0 rfl, ?_⟩
      | refine ⟨_, _, St.rows st 0 rfl, ?_⟩
      | refine ⟨_, _, _, St.rows st 0 rfl, ?_⟩
      | refine ⟨_, _, _, _, St.rows st 0 rfl, ?_⟩
      | refine ⟨_, _, _, _, _, St.rows st 0 rfl, ?_⟩
      | refine ⟨_, _, _, _, _, _, St.rows st 0 rfl, ?_⟩
      | refine ⟨_, _, _, _, _, _, _, St.rows st 0 rfl, ?_⟩
      | refine ⟨_, _, _, _, _, _, _, _, St.rows st 0 rfl, ?_⟩
      | refine ⟨St.rows st 1 rfl, ?_⟩
      | refine ⟨_, _, St.rows st 1 rfl, ?_⟩
      | refine ⟨_, _, _, St.rows st 1 rfl, ?_⟩
      | refine ⟨_, _, _, _, St.rows st 1 rfl, ?_⟩
      | refine ⟨_, _, _, _, _, St.rows st 1 rfl, ?_⟩
      | refine ⟨_, _, _, _, _, _, St.rows st 1 rfl, ?_⟩
      | refine ⟨_, _, _, _, _, _, _, St.rows st 1 rfl, ?_⟩
      | refine ⟨_, _, _, _, _, _, _, _, St.rows st 1 rfl, ?_⟩
      | refine ⟨St.rows st 2 rfl, ?_⟩
      | refine ⟨_, _, St.rows st 2 rfl, ?_⟩
      | refine ⟨_, _, _, St.rows st 2 rfl, ?_⟩
      | refine ⟨_, _, _, _, St.rows st 2 rfl, ?_⟩
      | refine ⟨_, _, _, _, _, St.rows st 2 rfl, ?_⟩
      | refine ⟨_, _, _, _, _, _, St.rows st 2 rfl, ?_⟩
      | refine ⟨_, _, _, _, _, _, _, St.rows st 2 rfl, ?_⟩
      | refine ⟨_, _, _, _, _, _, _, _, St.rows st 2 rfl, ?_⟩
      | refine ⟨St.rows st 3 rfl, ?_⟩
      | refine ⟨_, _, St.rows st 3 rfl, ?_⟩
      | refine ⟨_, _, _, St.rows st 3 rfl, ?_⟩
      | refine ⟨_, _, _, _, St.rows st 3 rfl, ?_⟩
      | refine ⟨_, _, _, _, _, St.rows st 3 rfl, ?_⟩
      | refine ⟨_, _, _, _, _, _, St.rows st 3 rfl, ?_⟩
      | refine ⟨_, _, _, _, _, _, _, St.rows st 3 rfl, ?_⟩
      | refine ⟨_, _, _, _, _, _, _, _, St.rows st 3 rfl, ?_⟩
      | (refine ⟨St.wr st 0 rfl rfl, St.store st 0 rfl ?_⟩; clear st; intro w st; simp only [List.set] at st)
      | (refine ⟨St.wrRow st 0 rfl rfl rfl, St.storeRow st 0 rfl ?_⟩; clear st; intro w st; simp only [List.set, setsL] at st)
      | (refine ⟨St.wr st 1 rfl rfl, St.store st 1 rfl ?_⟩; clear st; intro w st; simp only [List.set] at st)
      | (refine ⟨St.wrRow st 1 rfl rfl rfl, St.storeRow st 1 rfl ?_⟩; clear st; intro w st; simp only [List.set, setsL] at st)
      | (refine ⟨St.wr st 2 rfl rfl, St.store st 2 rfl ?_⟩; clear st; intro w st; simp only [List.set] at st)
      | (refine ⟨St.wrRow st 2 rfl rfl rfl, St.storeRow st 2 rfl ?_⟩; clear st; intro w st; simp only [List.set, setsL] at st)
      | (refine ⟨St.wr st 3 rfl rfl, St.store st 3 rfl ?_⟩; clear st; intro w st; simp only [List.set] at st)
      | (refine ⟨St.wrRow st 3 rfl rfl rfl, St.storeRow st 3 rfl ?_⟩; clear st; intro w st; simp only [List.set, setsL] at st)
      | with_reducible refine LetI.id (by omega) (by omega) ?_
      | with_reducible refine Br.dec (fun h => ?_) (fun h => ?_)
      | with_reducible refine Br.eqi (fun h => ?_) (fun h => ?_)
      | with_reducible refine Br.nei (fun h => ?_) (fun h => ?_)
      | with_reducible refine Br.eqs' (fun h => ?_) (fun h => ?_)
      | with_reducible refine Br.eqs (fun h => ?_) (fun h => ?_)
      | with_reducible refine Br.not ?_
      | with_reducible refine Br.and_ ?_
      | with_reducible refine Br.sure rfl ?_
      | with_reducible refine Br.nay rfl ?_
      | with_reducible refine Br.eqb (fun h => ?_) (fun h => ?_)
      | with_reducible refine Br.bool (fun h => ?_) (fun h => ?_)
    exact ⟨rfl, st.kp⟩
  have hl : l.length ≤ 1099511627776 := by have e1 : (mk l).size = l.length := rfl; omega
  repeat' first
    | (with_reducible refine St.alloc st ?_; clear st; intro b w st)
    | with_reducible refine sz_and (by (repeat rw [ByteArray.size_append]); omega) ?_
    | (refine Pu.go (oget_pu hl) st ?_; clear st; intro w st; refine ⟨_, _, _, _, _, rfl, ?_⟩)
    | refine ⟨St.cell st 0 rfl rfl, ?_⟩
    | refine ⟨_, St.cell st 0 rfl rfl, ?_⟩
    | refine ⟨_, _, St.cell st 0 rfl rfl, ?_⟩
    | refine ⟨_, _, _, St.cell st 0 rfl rfl, ?_⟩
    | refine ⟨St.cell st 1 rfl rfl, ?_⟩
    | refine ⟨_, St.cell st 1 rfl rfl, ?_⟩
    | refine ⟨_, _, St.cell st 1 rfl rfl, ?_⟩
    | refine ⟨_, _, _, St.cell st 1 rfl rfl, ?_⟩
    | refine ⟨St.cell st 2 rfl rfl, ?_⟩
    | refine ⟨_, St.cell st 2 rfl rfl, ?_⟩
    | refine ⟨_, _, St.cell st 2 rfl rfl, ?_⟩
    | refine ⟨_, _, _, St.cell st 2 rfl rfl, ?_⟩
    | refine ⟨St.cell st 3 rfl rfl, ?_⟩
    | refine ⟨_, St.cell st 3 rfl rfl, ?_⟩
    | refine ⟨_, _, St.cell st 3 rfl rfl, ?_⟩
    | refine ⟨_, _, _, St.cell st 3 rfl rfl, ?_⟩
    | refine ⟨St.rows st 0 rfl, ?_⟩
    | refine ⟨_, _, St.rows st 0 rfl, ?_⟩
    | refine ⟨_, _, _, St.rows st 0 rfl, ?_⟩
    | refine ⟨_, _, _, _, St.rows st 0 rfl, ?_⟩
    | refine ⟨_, _, _, _, _, St.rows st 0 rfl, ?_⟩
    | refine ⟨_, _, _, _, _, _, St.rows st 0 rfl, ?_⟩
    | refine ⟨_, _, _, _, _, _, _, St.rows st 0 rfl, ?_⟩
    | refine ⟨_, _, _, _, _, _, _, _, St.rows st 0 rfl, ?_⟩
    | refine ⟨St.rows st 1 rfl, ?_⟩
    | refine ⟨_, _, St.rows st 1 rfl, ?_⟩
    | refine ⟨_, _, _, St.rows st 1 rfl, ?_⟩
    | refine ⟨_, _, _, _, St.rows st 1 rfl, ?_⟩
    | refine ⟨_, _, _, _, _, St.rows st 1 rfl, ?_⟩
    | refine ⟨_, _, _, _, _, _, St.rows st 1 rfl, ?_⟩
    | refine ⟨_, _, _, _, _, _, _, St.rows st 1 rfl, ?_⟩
    | refine ⟨_, _, _, _, _, _, _, _, St.rows st 1 rfl, ?_⟩
    | refine ⟨St.rows st 2 rfl, ?_⟩
    | refine ⟨_, _, St.rows st 2 rfl, ?_⟩
    | refine ⟨_, _, _, St.rows st 2 rfl, ?_⟩
    | refine ⟨_, _, _, _, St.rows st 2 rfl, ?_⟩
    | refine ⟨_, _, _, _, _, St.rows st 2 rfl, ?_⟩
    | refine ⟨_, _, _, _, _, _, St.rows st 2 rfl, ?_⟩
    | refine ⟨_, _, _, _, _, _, _, St.rows st 2 rfl, ?_⟩
    | refine ⟨_, _, _, _, _, _, _, _, St.rows st 2 rfl, ?_⟩
    | refine ⟨St.rows st 3 rfl, ?_⟩
    | refine ⟨_, _, St.rows st 3 rfl, ?_⟩
    | refine ⟨_, _, _, St.rows st 3 rfl, ?_⟩
    | refine ⟨_, _, _, _, St.rows st 3 rfl, ?_⟩
    | refine ⟨_, _, _, _, _, St.rows st 3 rfl, ?_⟩
    | refine ⟨_, _, _, _, _, _, St.rows st 3 rfl, ?_⟩
    | refine ⟨_, _, _, _, _, _, _, St.rows st 3 rfl, ?_⟩
    | refine ⟨_, _, _, _, _, _, _, _, St.rows st 3 rfl, ?_⟩
    | (refine ⟨St.wr st 0 rfl rfl, St.store st 0 rfl ?_⟩; clear st; intro w st; simp only [List.set] at st)
    | (refine ⟨St.wrRow st 0 rfl rfl rfl, St.storeRow st 0 rfl ?_⟩; clear st; intro w st; simp only [List.set, setsL] at st)
    | (refine ⟨St.wr st 1 rfl rfl, St.store st 1 rfl ?_⟩; clear st; intro w st; simp only [List.set] at st)
    | (refine ⟨St.wrRow st 1 rfl rfl rfl, St.storeRow st 1 rfl ?_⟩; clear st; intro w st; simp only [List.set, setsL] at st)
    | (refine ⟨St.wr st 2 rfl rfl, St.store st 2 rfl ?_⟩; clear st; intro w st; simp only [List.set] at st)
    | (refine ⟨St.wrRow st 2 rfl rfl rfl, St.storeRow st 2 rfl ?_⟩; clear st; intro w st; simp only [List.set, setsL] at st)
    | (refine ⟨St.wr st 3 rfl rfl, St.store st 3 rfl ?_⟩; clear st; intro w st; simp only [List.set] at st)
    | (refine ⟨St.wrRow st 3 rfl rfl rfl, St.storeRow st 3 rfl ?_⟩; clear st; intro w st; simp only [List.set, setsL] at st)
    | with_reducible refine LetI.id (by omega) (by omega) ?_
  rcases getO_cases l with e | ⟨e1, e2, e3⟩
  · rw [e]
    repeat' first
      | (with_reducible refine St.alloc st ?_; clear st; intro b w st)
      | with_reducible refine sz_and (by (repeat rw [ByteArray.size_append]); omega) ?_
      | (refine Pu.go (told_pu) st ?_; clear st; intro w st; refine ⟨_, rfl, ?_⟩)
      | refine ⟨St.cell st 0 rfl rfl, ?_⟩
      | refine ⟨_, St.cell st 0 rfl rfl, ?_⟩
      | refine ⟨_, _, St.cell st 0 rfl rfl, ?_⟩
      | refine ⟨_, _, _, St.cell st 0 rfl rfl, ?_⟩
      | refine ⟨St.cell st 1 rfl rfl, ?_⟩
      | refine ⟨_, St.cell st 1 rfl rfl, ?_⟩
      | refine ⟨_, _, St.cell st 1 rfl rfl, ?_⟩
      | refine ⟨_, _, _, St.cell st 1 rfl rfl, ?_⟩
      | refine ⟨St.cell st 2 rfl rfl, ?_⟩
      | refine ⟨_, St.cell st 2 rfl rfl, ?_⟩
      | refine ⟨_, _, St.cell st 2 rfl rfl, ?_⟩
      | refine ⟨_, _, _, St.cell st 2 rfl rfl, ?_⟩
      | refine ⟨St.cell st 3 rfl rfl, ?_⟩
      | refine ⟨_, St.cell st 3 rfl rfl, ?_⟩
      | refine ⟨_, _, St.cell st 3 rfl rfl, ?_⟩
      | refine ⟨_, _, _, St.cell st 3 rfl rfl, ?_⟩
      | refine ⟨St.rows st 0 rfl, ?_⟩
      | refine ⟨_, _, St.rows st 0 rfl, ?_⟩
      | refine ⟨_, _, _, St.rows st 0 rfl, ?_⟩
      | refine ⟨_, _, _, _, St.rows st 0 rfl, ?_⟩
      | refine ⟨_, _, _, _, _, St.rows st 0 rfl, ?_⟩
      | refine ⟨_, _, _, _, _, _, St.rows st 0 rfl, ?_⟩
      | refine ⟨_, _, _, _, _, _, _, St.rows st 0 rfl, ?_⟩
      | refine ⟨_, _, _, _, _, _, _, _, St.rows st 0 rfl, ?_⟩
      | refine ⟨St.rows st 1 rfl, ?_⟩
      | refine ⟨_, _, St.rows st 1 rfl, ?_⟩
      | refine ⟨_, _, _, St.rows st 1 rfl, ?_⟩
      | refine ⟨_, _, _, _, St.rows st 1 rfl, ?_⟩
      | refine ⟨_, _, _, _, _, St.rows st 1 rfl, ?_⟩
      | refine ⟨_, _, _, _, _, _, St.rows st 1 rfl, ?_⟩
      | refine ⟨_, _, _, _, _, _, _, St.rows st 1 rfl, ?_⟩
      | refine ⟨_, _, _, _, _, _, _, _, St.rows st 1 rfl, ?_⟩
      | refine ⟨St.rows st 2 rfl, ?_⟩
      | refine ⟨_, _, St.rows st 2 rfl, ?_⟩
      | refine ⟨_, _, _, St.rows st 2 rfl, ?_⟩
      | refine ⟨_, _, _, _, St.rows st 2 rfl, ?_⟩
      | refine ⟨_, _, _, _, _, St.rows st 2 rfl, ?_⟩
      | refine ⟨_, _, _, _, _, _, St.rows st 2 rfl, ?_⟩
      | refine ⟨_, _, _, _, _, _, _, St.rows st 2 rfl, ?_⟩
      | refine ⟨_, _, _, _, _, _, _, _, St.rows st 2 rfl, ?_⟩
      | refine ⟨St.rows st 3 rfl, ?_⟩
      | refine ⟨_, _, St.rows st 3 rfl, ?_⟩
      | refine ⟨_, _, _, St.rows st 3 rfl, ?_⟩
      | refine ⟨_, _, _, _, St.rows st 3 rfl, ?_⟩
      | refine ⟨_, _, _, _, _, St.rows st 3 rfl, ?_⟩
      | refine ⟨_, _, _, _, _, _, St.rows st 3 rfl, ?_⟩
      | refine ⟨_, _, _, _, _, _, _, St.rows st 3 rfl, ?_⟩
      | refine ⟨_, _, _, _, _, _, _, _, St.rows st 3 rfl, ?_⟩
      | (refine ⟨St.wr st 0 rfl rfl, St.store st 0 rfl ?_⟩; clear st; intro w st; simp only [List.set] at st)
      | (refine ⟨St.wrRow st 0 rfl rfl rfl, St.storeRow st 0 rfl ?_⟩; clear st; intro w st; simp only [List.set, setsL] at st)
      | (refine ⟨St.wr st 1 rfl rfl, St.store st 1 rfl ?_⟩; clear st; intro w st; simp only [List.set] at st)
      | (refine ⟨St.wrRow st 1 rfl rfl rfl, St.storeRow st 1 rfl ?_⟩; clear st; intro w st; simp only [List.set, setsL] at st)
      | (refine ⟨St.wr st 2 rfl rfl, St.store st 2 rfl ?_⟩; clear st; intro w st; simp only [List.set] at st)
      | (refine ⟨St.wrRow st 2 rfl rfl rfl, St.storeRow st 2 rfl ?_⟩; clear st; intro w st; simp only [List.set, setsL] at st)
      | (refine ⟨St.wr st 3 rfl rfl, St.store st 3 rfl ?_⟩; clear st; intro w st; simp only [List.set] at st)
      | (refine ⟨St.wrRow st 3 rfl rfl rfl, St.storeRow st 3 rfl ?_⟩; clear st; intro w st; simp only [List.set, setsL] at st)
      | with_reducible refine LetI.id (by omega) (by omega) ?_
      | with_reducible refine Br.dec (fun h => ?_) (fun h => ?_)
      | with_reducible refine Br.eqi (fun h => ?_) (fun h => ?_)
      | with_reducible refine Br.nei (fun h => ?_) (fun h => ?_)
      | with_reducible refine Br.eqs' (fun h => ?_) (fun h => ?_)
      | with_reducible refine Br.eqs (fun h => ?_) (fun h => ?_)
      | with_reducible refine Br.not ?_
      | with_reducible refine Br.and_ ?_
      | with_reducible refine Br.sure rfl ?_
      | with_reducible refine Br.nay rfl ?_
      | with_reducible refine Br.eqb (fun h => ?_) (fun h => ?_)
      | with_reducible refine Br.bool (fun h => ?_) (fun h => ?_)
    all_goals first
      | exact ⟨rfl, st.kp⟩
      | (exfalso; simp_all [Opn.none]; done)
  · rw [e3]
    have e4 : putO (getO l).1 = (l, 0) := by unfold putO; rw [if_neg (by simp [e1]), ← e2]
    repeat' first
      | (with_reducible refine St.alloc st ?_; clear st; intro b w st)
      | with_reducible refine sz_and (by (repeat rw [ByteArray.size_append]); omega) ?_
      | (refine Pu.go (told_pu) st ?_; clear st; intro w st; refine ⟨_, rfl, ?_⟩)
      | (refine Pu.go (oput_pu ⟨_, _, _, _⟩) st ?_; clear st; intro w st; refine ⟨_, _, rfl, ?_⟩)
      | refine ⟨St.cell st 0 rfl rfl, ?_⟩
      | refine ⟨_, St.cell st 0 rfl rfl, ?_⟩
      | refine ⟨_, _, St.cell st 0 rfl rfl, ?_⟩
      | refine ⟨_, _, _, St.cell st 0 rfl rfl, ?_⟩
      | refine ⟨St.cell st 1 rfl rfl, ?_⟩
      | refine ⟨_, St.cell st 1 rfl rfl, ?_⟩
      | refine ⟨_, _, St.cell st 1 rfl rfl, ?_⟩
      | refine ⟨_, _, _, St.cell st 1 rfl rfl, ?_⟩
      | refine ⟨St.cell st 2 rfl rfl, ?_⟩
      | refine ⟨_, St.cell st 2 rfl rfl, ?_⟩
      | refine ⟨_, _, St.cell st 2 rfl rfl, ?_⟩
      | refine ⟨_, _, _, St.cell st 2 rfl rfl, ?_⟩
      | refine ⟨St.cell st 3 rfl rfl, ?_⟩
      | refine ⟨_, St.cell st 3 rfl rfl, ?_⟩
      | refine ⟨_, _, St.cell st 3 rfl rfl, ?_⟩
      | refine ⟨_, _, _, St.cell st 3 rfl rfl, ?_⟩
      | refine ⟨St.rows st 0 rfl, ?_⟩
      | refine ⟨_, _, St.rows st 0 rfl, ?_⟩
      | refine ⟨_, _, _, St.rows st 0 rfl, ?_⟩
      | refine ⟨_, _, _, _, St.rows st 0 rfl, ?_⟩
      | refine ⟨_, _, _, _, _, St.rows st 0 rfl, ?_⟩
      | refine ⟨_, _, _, _, _, _, St.rows st 0 rfl, ?_⟩
      | refine ⟨_, _, _, _, _, _, _, St.rows st 0 rfl, ?_⟩
      | refine ⟨_, _, _, _, _, _, _, _, St.rows st 0 rfl, ?_⟩
      | refine ⟨St.rows st 1 rfl, ?_⟩
      | refine ⟨_, _, St.rows st 1 rfl, ?_⟩
      | refine ⟨_, _, _, St.rows st 1 rfl, ?_⟩
      | refine ⟨_, _, _, _, St.rows st 1 rfl, ?_⟩
      | refine ⟨_, _, _, _, _, St.rows st 1 rfl, ?_⟩
      | refine ⟨_, _, _, _, _, _, St.rows st 1 rfl, ?_⟩
      | refine ⟨_, _, _, _, _, _, _, St.rows st 1 rfl, ?_⟩
      | refine ⟨_, _, _, _, _, _, _, _, St.rows st 1 rfl, ?_⟩
      | refine ⟨St.rows st 2 rfl, ?_⟩
      | refine ⟨_, _, St.rows st 2 rfl, ?_⟩
      | refine ⟨_, _, _, St.rows st 2 rfl, ?_⟩
      | refine ⟨_, _, _, _, St.rows st 2 rfl, ?_⟩
      | refine ⟨_, _, _, _, _, St.rows st 2 rfl, ?_⟩
      | refine ⟨_, _, _, _, _, _, St.rows st 2 rfl, ?_⟩
      | refine ⟨_, _, _, _, _, _, _, St.rows st 2 rfl, ?_⟩
      | refine ⟨_, _, _, _, _, _, _, _, St.rows st 2 rfl, ?_⟩
      | refine ⟨St.rows st 3 rfl, ?_⟩
      | refine ⟨_, _, St.rows st 3 rfl, ?_⟩
      | refine ⟨_, _, _, St.rows st 3 rfl, ?_⟩
      | refine ⟨_, _, _, _, St.rows st 3 rfl, ?_⟩
      | refine ⟨_, _, _, _, _, St.rows st 3 rfl, ?_⟩
      | refine ⟨_, _, _, _, _, _, St.rows st 3 rfl, ?_⟩
      | refine ⟨_, _, _, _, _, _, _, St.rows st 3 rfl, ?_⟩
      | refine ⟨_, _, _, _, _, _, _, _, St.rows st 3 rfl, ?_⟩
      | (refine ⟨St.wr st 0 rfl rfl, St.store st 0 rfl ?_⟩; clear st; intro w st; simp only [List.set] at st)
      | (refine ⟨St.wrRow st 0 rfl rfl rfl, St.storeRow st 0 rfl ?_⟩; clear st; intro w st; simp only [List.set, setsL] at st)
      | (refine ⟨St.wr st 1 rfl rfl, St.store st 1 rfl ?_⟩; clear st; intro w st; simp only [List.set] at st)
      | (refine ⟨St.wrRow st 1 rfl rfl rfl, St.storeRow st 1 rfl ?_⟩; clear st; intro w st; simp only [List.set, setsL] at st)
      | (refine ⟨St.wr st 2 rfl rfl, St.store st 2 rfl ?_⟩; clear st; intro w st; simp only [List.set] at st)
      | (refine ⟨St.wrRow st 2 rfl rfl rfl, St.storeRow st 2 rfl ?_⟩; clear st; intro w st; simp only [List.set, setsL] at st)
      | (refine ⟨St.wr st 3 rfl rfl, St.store st 3 rfl ?_⟩; clear st; intro w st; simp only [List.set] at st)
      | (refine ⟨St.wrRow st 3 rfl rfl rfl, St.storeRow st 3 rfl ?_⟩; clear st; intro w st; simp only [List.set, setsL] at st)
      | with_reducible refine LetI.id (by omega) (by omega) ?_
      | with_reducible refine Br.dec (fun h => ?_) (fun h => ?_)
      | with_reducible refine Br.eqi (fun h => ?_) (fun h => ?_)
      | with_reducible refine Br.nei (fun h => ?_) (fun h => ?_)
      | with_reducible refine Br.eqs' (fun h => ?_) (fun h => ?_)
      | with_reducible refine Br.eqs (fun h => ?_) (fun h => ?_)
      | with_reducible refine Br.not ?_
      | with_reducible refine Br.and_ ?_
      | with_reducible refine Br.sure rfl ?_
      | with_reducible refine Br.nay rfl ?_
      | with_reducible refine Br.eqb (fun h => ?_) (fun h => ?_)
      | with_reducible refine Br.bool (fun h => ?_) (fun h => ?_)
    all_goals first
      | exact ⟨rfl, st.kp⟩
      | (exfalso; rw [e4] at h; exact h rfl)
      | (exfalso; exact h rfl)
theorem lawOBack_pu (o : Opn) {c : Nat} (hc : c ≤ 255) : Pu Try.prog 6 #[opV o, .int .u8 c] (.bool true) := by
  intro w0
  have st : St No w0 w0 [] := St.start w0
  have p1 := @encO_pos o
  have p2 := @encO_len o
  have p3 := @chkO_ok o
  refine lawOBack_ok _ _ _ _ _ _ _ ?_
  unfold lawOBack
  by_cases h0 : chkO o = 0
  · have hs : (mk (encO o)).size = (encO o).length := rfl
    have q1 := p1 h0
    have q2 := p2 h0
    have hp : putO o = (encO o, 0) := by unfold putO; rw [if_neg (by simp [h0])]
    have hq : Pu Try.prog 16 #[opV o] (.tuple #[.string (mk (encO o)), .int .i64 0]) := by
      have := oput_pu o
      rwa [hp] at this
    have hk : Pu Try.prog 18 #[opV o] (.int .i64 0) := by
      have := ocheck_pu o
      rwa [h0] at this
    have hg : Pu Try.prog 23 #[.string (mk (encO o))] (.tuple #[opV o, .int .i64 0]) := by
      have := oget_pu (l := encO o) (by omega)
      rwa [getO_put h0] at this
    have g2 : ∀ k, k < (encO o).length → Pu Try.prog 23 #[.string ((mk (encO o)).extract 0 k)] (.tuple #[opV .none, .int .i64 10]) := by
      intro k hk
      rw [mk_extract, List.drop_zero]
      have := oget_pu (l := (encO o).take k) (by rw [List.length_take]; omega)
      rwa [getO_cut h0 hk] at this
    have g3 : Pu Try.prog 23 #[.string (mk (encO o) ++ ⟨#[0]⟩)] (.tuple #[opV .none, .int .i64 10]) := by
      rw [show (⟨#[0]⟩ : ByteArray) = mk [0] from rfl, mk_append]
      have := oget_pu (l := encO o ++ [0]) (by rw [List.length_append, List.length_singleton]; omega)
      rwa [getO_more h0 (by simp)] at this
    have hc1 : costO o = 16 + o.key.length + o.val.length := by unfold costO; rw [if_neg (by simp [h0])]
    obtain ⟨_, _, hkey, _, _, _, _, r1, r2⟩ := p3 h0
    have r3 : 1 ≤ o.key.length := List.length_pos_iff.2 hkey
    have m1 : (0 : Int) ≤ (c : Int) % ((mk (encO o)).size : Int) := Int.emod_nonneg _ (by omega)
    have m2 : (c : Int) % ((mk (encO o)).size : Int) < ((mk (encO o)).size : Int) := Int.emod_lt_of_pos _ (by omega)
    repeat' first
      | (with_reducible refine St.alloc st ?_; clear st; intro b w st)
      | with_reducible refine sz_and (by (repeat rw [ByteArray.size_append]); omega) ?_
      | (refine Pu.go (ogreat_pu o) st ?_; clear st; intro w st; refine ⟨_, rfl, ?_⟩)
      | (refine Pu.go (told_pu) st ?_; clear st; intro w st; refine ⟨_, rfl, ?_⟩)
      | (refine Pu.go (hq) st ?_; clear st; intro w st; refine ⟨_, _, rfl, ?_⟩)
      | (refine Pu.go (hk) st ?_; clear st; intro w st; refine ⟨_, rfl, ?_⟩)
      | (refine Pu.go (ocost_pu o) st ?_; clear st; intro w st; refine ⟨_, rfl, ?_⟩)
      | (refine Pu.go (hg) st ?_; clear st; intro w st; refine ⟨_, _, _, _, _, rfl, ?_⟩)
      | (refine Pu.go (g2 _ (by omega)) st ?_; clear st; intro w st; refine ⟨_, _, _, _, _, rfl, ?_⟩)
      | (refine Pu.go (g3) st ?_; clear st; intro w st; refine ⟨_, _, _, _, _, rfl, ?_⟩)
      | refine ⟨St.cell st 0 rfl rfl, ?_⟩
      | refine ⟨_, St.cell st 0 rfl rfl, ?_⟩
      | refine ⟨_, _, St.cell st 0 rfl rfl, ?_⟩
      | refine ⟨_, _, _, St.cell st 0 rfl rfl, ?_⟩
      | refine ⟨St.cell st 1 rfl rfl, ?_⟩
      | refine ⟨_, St.cell st 1 rfl rfl, ?_⟩
      | refine ⟨_, _, St.cell st 1 rfl rfl, ?_⟩
      | refine ⟨_, _, _, St.cell st 1 rfl rfl, ?_⟩
      | refine ⟨St.cell st 2 rfl rfl, ?_⟩
      | refine ⟨_, St.cell st 2 rfl rfl, ?_⟩
      | refine ⟨_, _, St.cell st 2 rfl rfl, ?_⟩
      | refine ⟨_, _, _, St.cell st 2 rfl rfl, ?_⟩
      | refine ⟨St.cell st 3 rfl rfl, ?_⟩
      | refine ⟨_, St.cell st 3 rfl rfl, ?_⟩
      | refine ⟨_, _, St.cell st 3 rfl rfl, ?_⟩
      | refine ⟨_, _, _, St.cell st 3 rfl rfl, ?_⟩
      | refine ⟨St.rows st 0 rfl, ?_⟩
      | refine ⟨_, _, St.rows st 0 rfl, ?_⟩
      | refine ⟨_, _, _, St.rows st 0 rfl, ?_⟩
      | refine ⟨_, _, _, _, St.rows st 0 rfl, ?_⟩
      | refine ⟨_, _, _, _, _, St.rows st 0 rfl, ?_⟩
      | refine ⟨_, _, _, _, _, _, St.rows st 0 rfl, ?_⟩
      | refine ⟨_, _, _, _, _, _, _, St.rows st 0 rfl, ?_⟩
      | refine ⟨_, _, _, _, _, _, _, _, St.rows st 0 rfl, ?_⟩
      | refine ⟨St.rows st 1 rfl, ?_⟩
      | refine ⟨_, _, St.rows st 1 rfl, ?_⟩
      | refine ⟨_, _, _, St.rows st 1 rfl, ?_⟩
      | refine ⟨_, _, _, _, St.rows st 1 rfl, ?_⟩
      | refine ⟨_, _, _, _, _, St.rows st 1 rfl, ?_⟩
      | refine ⟨_, _, _, _, _, _, St.rows st 1 rfl, ?_⟩
      | refine ⟨_, _, _, _, _, _, _, St.rows st 1 rfl, ?_⟩
      | refine ⟨_, _, _, _, _, _, _, _, St.rows st 1 rfl, ?_⟩
      | refine ⟨St.rows st 2 rfl, ?_⟩
      | refine ⟨_, _, St.rows st 2 rfl, ?_⟩
      | refine ⟨_, _, _, St.rows st 2 rfl, ?_⟩
      | refine ⟨_, _, _, _, St.rows st 2 rfl, ?_⟩
      | refine ⟨_, _, _, _, _, St.rows st 2 rfl, ?_⟩
      | refine ⟨_, _, _, _, _, _, St.rows st 2 rfl, ?_⟩
      | refine ⟨_, _, _, _, _, _, _, St.rows st 2 rfl, ?_⟩
      | refine ⟨_, _, _, _, _, _, _, _, St.rows st 2 rfl, ?_⟩
      | refine ⟨St.rows st 3 rfl, ?_⟩
      | refine ⟨_, _, St.rows st 3 rfl, ?_⟩
      | refine ⟨_, _, _, St.rows st 3 rfl, ?_⟩
      | refine ⟨_, _, _, _, St.rows st 3 rfl, ?_⟩
      | refine ⟨_, _, _, _, _, St.rows st 3 rfl, ?_⟩
      | refine ⟨_, _, _, _, _, _, St.rows st 3 rfl, ?_⟩
      | refine ⟨_, _, _, _, _, _, _, St.rows st 3 rfl, ?_⟩
      | refine ⟨_, _, _, _, _, _, _, _, St.rows st 3 rfl, ?_⟩
      | (refine ⟨St.wr st 0 rfl rfl, St.store st 0 rfl ?_⟩; clear st; intro w st; simp only [List.set] at st)
      | (refine ⟨St.wrRow st 0 rfl rfl rfl, St.storeRow st 0 rfl ?_⟩; clear st; intro w st; simp only [List.set, setsL] at st)
      | (refine ⟨St.wr st 1 rfl rfl, St.store st 1 rfl ?_⟩; clear st; intro w st; simp only [List.set] at st)
      | (refine ⟨St.wrRow st 1 rfl rfl rfl, St.storeRow st 1 rfl ?_⟩; clear st; intro w st; simp only [List.set, setsL] at st)
      | (refine ⟨St.wr st 2 rfl rfl, St.store st 2 rfl ?_⟩; clear st; intro w st; simp only [List.set] at st)
      | (refine ⟨St.wrRow st 2 rfl rfl rfl, St.storeRow st 2 rfl ?_⟩; clear st; intro w st; simp only [List.set, setsL] at st)
      | (refine ⟨St.wr st 3 rfl rfl, St.store st 3 rfl ?_⟩; clear st; intro w st; simp only [List.set] at st)
      | (refine ⟨St.wrRow st 3 rfl rfl rfl, St.storeRow st 3 rfl ?_⟩; clear st; intro w st; simp only [List.set, setsL] at st)
      | with_reducible refine LetI.id (by omega) (by omega) ?_
      | refine ⟨by omega, ?_⟩
      | with_reducible refine LetI.rem (by omega) ?_
      | refine ⟨⟨by omega, by omega, by omega⟩, ?_⟩
      | exact absurd rfl h
      | (exfalso; omega)
      | with_reducible refine Br.dec (fun h => ?_) (fun h => ?_)
      | with_reducible refine Br.eqi (fun h => ?_) (fun h => ?_)
      | with_reducible refine Br.nei (fun h => ?_) (fun h => ?_)
      | with_reducible refine Br.eqs' (fun h => ?_) (fun h => ?_)
      | with_reducible refine Br.eqs (fun h => ?_) (fun h => ?_)
      | with_reducible refine Br.not ?_
      | with_reducible refine Br.and_ ?_
      | with_reducible refine Br.sure rfl ?_
      | with_reducible refine Br.nay rfl ?_
      | with_reducible refine Br.eqb (fun h => ?_) (fun h => ?_)
      | with_reducible refine Br.bool (fun h => ?_) (fun h => ?_)
    all_goals first
      | exact ⟨rfl, st.kp⟩
      | (exfalso; simp_all [Opn.none, mk_toList]; done)
  · have hp : putO o = ([], chkO o) := by unfold putO; rw [if_pos h0]
    have hq : Pu Try.prog 16 #[opV o] (.tuple #[.string (mk []), .int .i64 (chkO o)]) := by
      have := oput_pu o
      rwa [hp] at this
    have hc1 : Pu Try.prog 20 #[opV o] (.int .i64 0) := by
      have := ocost_pu o
      unfold costO at this
      rwa [if_pos h0] at this
    have hr : Pu Try.prog 22 #[opV o] (.bool false) := by
      have := oreads_pu o
      unfold readsO at this
      rwa [decide_eq_false (by simp [h0])] at this
    repeat' first
      | (with_reducible refine St.alloc st ?_; clear st; intro b w st)
      | with_reducible refine sz_and (by (repeat rw [ByteArray.size_append]); omega) ?_
      | (refine Pu.go (ogreat_pu o) st ?_; clear st; intro w st; refine ⟨_, rfl, ?_⟩)
      | (refine Pu.go (told_pu) st ?_; clear st; intro w st; refine ⟨_, rfl, ?_⟩)
      | (refine Pu.go (hq) st ?_; clear st; intro w st; refine ⟨_, _, rfl, ?_⟩)
      | (refine Pu.go (ocheck_pu o) st ?_; clear st; intro w st; refine ⟨_, rfl, ?_⟩)
      | (refine Pu.go (hc1) st ?_; clear st; intro w st; refine ⟨_, rfl, ?_⟩)
      | (refine Pu.go (hr) st ?_; clear st; intro w st; refine ⟨_, rfl, ?_⟩)
      | refine ⟨St.cell st 0 rfl rfl, ?_⟩
      | refine ⟨_, St.cell st 0 rfl rfl, ?_⟩
      | refine ⟨_, _, St.cell st 0 rfl rfl, ?_⟩
      | refine ⟨_, _, _, St.cell st 0 rfl rfl, ?_⟩
      | refine ⟨St.cell st 1 rfl rfl, ?_⟩
      | refine ⟨_, St.cell st 1 rfl rfl, ?_⟩
      | refine ⟨_, _, St.cell st 1 rfl rfl, ?_⟩
      | refine ⟨_, _, _, St.cell st 1 rfl rfl, ?_⟩
      | refine ⟨St.cell st 2 rfl rfl, ?_⟩
      | refine ⟨_, St.cell st 2 rfl rfl, ?_⟩
      | refine ⟨_, _, St.cell st 2 rfl rfl, ?_⟩
      | refine ⟨_, _, _, St.cell st 2 rfl rfl, ?_⟩
      | refine ⟨St.cell st 3 rfl rfl, ?_⟩
      | refine ⟨_, St.cell st 3 rfl rfl, ?_⟩
      | refine ⟨_, _, St.cell st 3 rfl rfl, ?_⟩
      | refine ⟨_, _, _, St.cell st 3 rfl rfl, ?_⟩
      | refine ⟨St.rows st 0 rfl, ?_⟩
      | refine ⟨_, _, St.rows st 0 rfl, ?_⟩
      | refine ⟨_, _, _, St.rows st 0 rfl, ?_⟩
      | refine ⟨_, _, _, _, St.rows st 0 rfl, ?_⟩
      | refine ⟨_, _, _, _, _, St.rows st 0 rfl, ?_⟩
      | refine ⟨_, _, _, _, _, _, St.rows st 0 rfl, ?_⟩
      | refine ⟨_, _, _, _, _, _, _, St.rows st 0 rfl, ?_⟩
      | refine ⟨_, _, _, _, _, _, _, _, St.rows st 0 rfl, ?_⟩
      | refine ⟨St.rows st 1 rfl, ?_⟩
      | refine ⟨_, _, St.rows st 1 rfl, ?_⟩
      | refine ⟨_, _, _, St.rows st 1 rfl, ?_⟩
      | refine ⟨_, _, _, _, St.rows st 1 rfl, ?_⟩
      | refine ⟨_, _, _, _, _, St.rows st 1 rfl, ?_⟩
      | refine ⟨_, _, _, _, _, _, St.rows st 1 rfl, ?_⟩
      | refine ⟨_, _, _, _, _, _, _, St.rows st 1 rfl, ?_⟩
      | refine ⟨_, _, _, _, _, _, _, _, St.rows st 1 rfl, ?_⟩
      | refine ⟨St.rows st 2 rfl, ?_⟩
      | refine ⟨_, _, St.rows st 2 rfl, ?_⟩
      | refine ⟨_, _, _, St.rows st 2 rfl, ?_⟩
      | refine ⟨_, _, _, _, St.rows st 2 rfl, ?_⟩
      | refine ⟨_, _, _, _, _, St.rows st 2 rfl, ?_⟩
      | refine ⟨_, _, _, _, _, _, St.rows st 2 rfl, ?_⟩
      | refine ⟨_, _, _, _, _, _, _, St.rows st 2 rfl, ?_⟩
      | refine ⟨_, _, _, _, _, _, _, _, St.rows st 2 rfl, ?_⟩
      | refine ⟨St.rows st 3 rfl, ?_⟩
      | refine ⟨_, _, St.rows st 3 rfl, ?_⟩
      | refine ⟨_, _, _, St.rows st 3 rfl, ?_⟩
      | refine ⟨_, _, _, _, St.rows st 3 rfl, ?_⟩
      | refine ⟨_, _, _, _, _, St.rows st 3 rfl, ?_⟩
      | refine ⟨_, _, _, _, _, _, St.rows st 3 rfl, ?_⟩
      | refine ⟨_, _, _, _, _, _, _, St.rows st 3 rfl, ?_⟩
      | refine ⟨_, _, _, _, _, _, _, _, St.rows st 3 rfl, ?_⟩
      | (refine ⟨St.wr st 0 rfl rfl, St.store st 0 rfl ?_⟩; clear st; intro w st; simp only [List.set] at st)
      | (refine ⟨St.wrRow st 0 rfl rfl rfl, St.storeRow st 0 rfl ?_⟩; clear st; intro w st; simp only [List.set, setsL] at st)
      | (refine ⟨St.wr st 1 rfl rfl, St.store st 1 rfl ?_⟩; clear st; intro w st; simp only [List.set] at st)
      | (refine ⟨St.wrRow st 1 rfl rfl rfl, St.storeRow st 1 rfl ?_⟩; clear st; intro w st; simp only [List.set, setsL] at st)
      | (refine ⟨St.wr st 2 rfl rfl, St.store st 2 rfl ?_⟩; clear st; intro w st; simp only [List.set] at st)
      | (refine ⟨St.wrRow st 2 rfl rfl rfl, St.storeRow st 2 rfl ?_⟩; clear st; intro w st; simp only [List.set, setsL] at st)
      | (refine ⟨St.wr st 3 rfl rfl, St.store st 3 rfl ?_⟩; clear st; intro w st; simp only [List.set] at st)
      | (refine ⟨St.wrRow st 3 rfl rfl rfl, St.storeRow st 3 rfl ?_⟩; clear st; intro w st; simp only [List.set, setsL] at st)
      | with_reducible refine LetI.id (by omega) (by omega) ?_
      | exact absurd rfl h
      | with_reducible refine Br.dec (fun h => ?_) (fun h => ?_)
      | with_reducible refine Br.eqi (fun h => ?_) (fun h => ?_)
      | with_reducible refine Br.nei (fun h => ?_) (fun h => ?_)
      | with_reducible refine Br.eqs' (fun h => ?_) (fun h => ?_)
      | with_reducible refine Br.eqs (fun h => ?_) (fun h => ?_)
      | with_reducible refine Br.not ?_
      | with_reducible refine Br.and_ ?_
      | with_reducible refine Br.sure rfl ?_
      | with_reducible refine Br.nay rfl ?_
      | with_reducible refine Br.eqb (fun h => ?_) (fun h => ?_)
      | with_reducible refine Br.bool (fun h => ?_) (fun h => ?_)
    all_goals first
      | exact ⟨rfl, st.kp⟩
      | exact absurd h h0
      | (exfalso; simp_all; done)
end Go.Proofs.Ytbdhdjbdooccoaa
