/- Package frames: a frame's cells, its numbers. -/
import Derived.Test.YtbdhdjbdooccoaaDF
import Derived.Test.YtbdhdjbdooccoaaOB
import Derived.Test.YtbdhdjbdooccoaaCW
import Derived.Test.YtbdhdjbdooccoaaCR
import Derived.Test.YtbdhdjbdooccoaaFP
import Derived.Test.YtbdhdjbdooccoaaFR
import Derived.Test.YtbdhdjbdooccoaaBY
namespace Go.Proofs.Ytbdhdjbdooccoaa
open Go.Vc Go.Codec

abbrev frmL (f : Frm) (p : Option Addr) (k : Nat) : List Value :=
  [.int .i64 f.kind, .int .i64 (f.nums 0), .int .i64 (f.nums 1), .int .i64 (f.nums 2), .int .i64 (f.nums 3), .int .i64 (f.nums 4), .int .i64 (f.nums 5), .int .i64 f.op.kind, .string (mk f.op.key), .string (mk f.op.val), .int .i64 f.op.ver, .int .i64 f.res.code, .string (mk f.res.val), .int .i64 f.res.ver, .int .i64 f.res.at_, .int .i64 (f.nums 6), .int .i64 f.ent.idx, .int .i64 f.ent.cl, .int .i64 f.ent.sq, .int .i64 f.ent.op.kind, .string (mk f.ent.op.key), .string (mk f.ent.op.val), .int .i64 f.ent.op.ver, .int .i64 f.ch.epoch, .slice p f.ch.mem.length k, .int .i64 f.ch.drain, .int .i64 (f.nums 7), .int .i64 (f.nums 8), .int .i64 (f.nums 9)]
abbrev frmV (f : Frm) (p : Option Addr) (k : Nat) : Value := .agg (frmL f p k).toArray
abbrev frmB (b : Nat) (f : Frm) (p : Option Addr) (k : Nat) : Atom := .blk b 58 (frmL f p k)
abbrev memR (l : List (Int × Int)) (p : Option Addr) (k : Nat) : Atom := .row 0 43 2 (.slice p l.length k) l.length (cellsOf memE l)
def offF (i : Nat) : Nat := [1, 2, 3, 4, 5, 6, 15, 26, 27, 28].getD i 0
def fidF (i : Nat) : FuncId := [90, 91, 92, 93, 94, 95, 96, 97, 98, 99].getD i 0
theorem frm_at (f : Frm) (p : Option Addr) (k : Nat) {i : Nat} (h : i < 10) : (frmL f p k)[offF i]? = some (.int .i64 (f.nums i)) := by
  match i, h with
  | 0, _ => rfl
  | 1, _ => rfl
  | 2, _ => rfl
  | 3, _ => rfl
  | 4, _ => rfl
  | 5, _ => rfl
  | 6, _ => rfl
  | 7, _ => rfl
  | 8, _ => rfl
  | 9, _ => rfl
theorem frm_set (f : Frm) (p : Option Addr) (k : Nat) {i : Nat} (h : i < 10) (n : Int) : (frmL f p k).set (offF i) (.int .i64 n) = frmL (f.set i n) p k := by
  match i, h with
  | 0, _ => rfl
  | 1, _ => rfl
  | 2, _ => rfl
  | 3, _ => rfl
  | 4, _ => rfl
  | 5, _ => rfl
  | 6, _ => rfl
  | 7, _ => rfl
  | 8, _ => rfl
  | 9, _ => rfl
theorem numsF_lt {k : Int} {i : Nat} (h : i ∈ numsF k) : i < 10 := by
  unfold numsF at h
  repeat' split at h
  all_goals first | (simp at h; done) | (simp at h; omega)
theorem numsF_len (k : Int) : (numsF k).length ≤ 6 := by
  unfold numsF
  repeat' split
  all_goals simp
theorem fcallee {i : Nat} (h : i < 10) : calleeOk Try.prog (fidF i) = true := by
  match i, h with
  | 0, _ => (show calleeOk Try.prog (fidF 0) = true; kernel_rfl)
  | 1, _ => (show calleeOk Try.prog (fidF 1) = true; kernel_rfl)
  | 2, _ => (show calleeOk Try.prog (fidF 2) = true; kernel_rfl)
  | 3, _ => (show calleeOk Try.prog (fidF 3) = true; kernel_rfl)
  | 4, _ => (show calleeOk Try.prog (fidF 4) = true; kernel_rfl)
  | 5, _ => (show calleeOk Try.prog (fidF 5) = true; kernel_rfl)
  | 6, _ => (show calleeOk Try.prog (fidF 6) = true; kernel_rfl)
  | 7, _ => (show calleeOk Try.prog (fidF 7) = true; kernel_rfl)
  | 8, _ => (show calleeOk Try.prog (fidF 8) = true; kernel_rfl)
  | 9, _ => (show calleeOk Try.prog (fidF 9) = true; kernel_rfl)
theorem ffield_pu {i : Nat} (h : i < 10) (b : Nat) : Pu Try.prog (fidF i) #[.pointer (some ⟨b, 0, none⟩)] (.pointer (some ⟨b, offF i, none⟩)) := by
  intro w
  match i, h with
  | 0, _ => exact fepoch_ok _ _ _ ⟨rfl, Kp.refl _ _⟩
  | 1, _ => exact fclient_ok _ _ _ ⟨rfl, Kp.refl _ _⟩
  | 2, _ => exact fseq_ok _ _ _ ⟨rfl, Kp.refl _ _⟩
  | 3, _ => exact ftry_ok _ _ _ ⟨rfl, Kp.refl _ _⟩
  | 4, _ => exact fclass_ok _ _ _ ⟨rfl, Kp.refl _ _⟩
  | 5, _ => exact fdeadline_ok _ _ _ ⟨rfl, Kp.refl _ _⟩
  | 6, _ => exact freason_ok _ _ _ ⟨rfl, Kp.refl _ _⟩
  | 7, _ => exact findex_ok _ _ _ ⟨rfl, Kp.refl _ _⟩
  | 8, _ => exact fgrant_ok _ _ _ ⟨rfl, Kp.refl _ _⟩
  | 9, _ => exact fhave_ok _ _ _ ⟨rfl, Kp.refl _ _⟩
abbrev fnE (i : Nat) : List Value := [.func (.func (fidF i)) #[] #[]]
theorem fnE_len (i : Nat) : (fnE i).length = 1 := rfl
abbrev FnAt (w : World) (p : Option Addr) (l : List Nat) : Prop := ElAt fnE 1 w p l
abbrev fnR (l : List Nat) (p : Option Addr) (k : Nat) : Atom := .row 0 91 1 (.slice p l.length k) l.length (cellsOf fnE l)
theorem fn_owns {w : World} {g B : Nat} {l : List Nat} (h : Blk w g 91 ⟨cellsOf fnE l⟩) (hB : B ≤ g) (hl : l.length ≤ 10) : w.ownsRow B 91 1 (.slice (some ⟨g, 0, none⟩) l.length l.length) l.length (cellsOf fnE l) := by
  have hc : (cellsOf fnE l).length = l.length := by rw [cellsOf_len fnE_len]; omega
  exact owns_blk h hB (Nat.le_refl _) (by simp [maxLen]; omega) (by show (cellsOf fnE l).length = _; omega) hc (List.take_of_length_le (by show (cellsOf fnE l).length ≤ _; omega))
theorem fnumbers_ca (k : Int) (w0 : World) : Ca Try.prog 75 #[.int .i64 k] w0 fun e w' => ∃ p c, e = .returned (.slice p (numsF k).length c) ∧ w'.ownsRow w0.heap.size 91 1 (.slice p (numsF k).length c) (numsF k).length (cellsOf fnE (numsF k)) ∧ Kp No w0 w' := by
  have st : St No w0 w0 [] := St.start w0
  refine fnumbers_ok _ _ _ ?_
  unfold fnumbers
  have done : ∀ (g : Nat) (w : World) (l : List Nat), numsF k = l → St No w0 w [.blk g 91 (cellsOf fnE l)] → l.length ≤ 10 → ∃ p c, Ending.returned (.slice (some ⟨g, 0, none⟩) l.length l.length) = .returned (.slice p (numsF k).length c) ∧ w.ownsRow w0.heap.size 91 1 (.slice p (numsF k).length c) (numsF k).length (cellsOf fnE (numsF k)) ∧ Kp No w0 w := by
    intro g w l hl st hle
    rw [hl]
    have hg : w0.heap.size ≤ g := by
      rcases st.own 0 _ rfl g rfl with h | h
      · exact h.elim
      · exact h
    exact ⟨_, _, rfl, fn_owns (st.hold 0 _ rfl) hg hle, st.kp⟩
  repeat' first
    | refine Br.eqi (fun h => ?_) (fun h => ?_)
    | (refine St.alloc st ?_; clear st; intro g w st)
  all_goals try (exfalso; omega)
  all_goals first
    | (subst h; exact done _ _ _ rfl st (by decide))
    | (have e : numsF k = [] := by
        unfold numsF
        repeat rw [if_neg (by omega)]
       rw [e]
       exact ⟨_, _, rfl, owns_nil _ _ _ _, st.kp⟩)
theorem fgood_pu (n : Int) : Pu Try.prog 81 #[.int .i64 n] (.bool (decide (goodN n))) := by
  intro w
  refine fgood_ok _ _ _ (Br.dec (fun h => ⟨?_, Kp.refl _ _⟩) fun h => ⟨?_, Kp.refl _ _⟩)
  · refine congrArg (fun b => Ending.returned (Value.bool b)) (decide_eq_decide.2 ?_)
    unfold goodN; omega
  · rw [decide_eq_false (by unfold goodN; omega)]
set_option maxRecDepth 100000 in
set_option maxHeartbeats 2000000 in
theorem fresult_pu {r : Rsl} (hl : r.val.length ≤ 1000000) : Pu Try.prog 103 #[.agg #[.int .i64 r.code, .string (mk r.val), .int .i64 r.ver, .int .i64 r.at_]] (.tuple #[.string (mk (encR r)), .bool (decide (okR r))]) := by
  intro w0
  have st : St No w0 w0 [] := St.start w0
  have e1 : (mk r.val).size = r.val.length := rfl
  have a1 : (mk (encI r.code)).size ≤ 9 := encI_len _
  have a2 : (mk (encT r.val)).size ≤ 9 + r.val.length := encT_len (by omega)
  have a3 : (mk (encI r.ver)).size ≤ 9 := encI_len _
  have a4 : (mk (encI r.at_)).size ≤ 9 := encI_len _
  refine fresult_ok _ _ _ _ _ _ ?_
  unfold fresult
  repeat' first
    | (with_reducible refine St.alloc st ?_; (try clear st); intro b w st)
    | with_reducible refine sz_and (by (repeat rw [ByteArray.size_append]); omega) ?_
    | (refine Pu.go (fgood_pu _) st ?_; (try clear st); intro w st; refine ⟨_, rfl, ?_⟩)
    | (refine Pu.go (int_pu _) st ?_; (try clear st); intro w st; refine ⟨_, rfl, ?_⟩)
    | (refine Pu.go (text_pu (l := r.val) (by omega)) st ?_; (try clear st); intro w st; refine ⟨_, rfl, ?_⟩)
    | (with_reducible apply ex0c; case h => first | exact St.cell st 0 rfl rfl | exact St.cell st 1 rfl rfl | exact St.cell st 2 rfl rfl | exact St.cell st 3 rfl rfl | fail)
    | (with_reducible apply ex1c; case h => first | exact St.cell st 0 rfl rfl | exact St.cell st 1 rfl rfl | exact St.cell st 2 rfl rfl | exact St.cell st 3 rfl rfl | fail)
    | (with_reducible apply ex3c; case h => first | exact St.cell st 0 rfl rfl | exact St.cell st 1 rfl rfl | exact St.cell st 2 rfl rfl | exact St.cell st 3 rfl rfl | fail)
    | (with_reducible apply ex0r; case h => first | exact St.rows st 0 rfl | exact St.rows st 1 rfl | exact St.rows st 2 rfl | exact St.rows st 3 rfl | fail)
    | (with_reducible apply exr2; case h => first | exact St.rows st 0 rfl | exact St.rows st 1 rfl | exact St.rows st 2 rfl | exact St.rows st 3 rfl | fail)
    | (with_reducible apply exr3; case h => first | exact St.rows st 0 rfl | exact St.rows st 1 rfl | exact St.rows st 2 rfl | exact St.rows st 3 rfl | fail)
    | (with_reducible apply exr4; case h => first | exact St.rows st 0 rfl | exact St.rows st 1 rfl | exact St.rows st 2 rfl | exact St.rows st 3 rfl | fail)
    | (with_reducible apply exr5; case h => first | exact St.rows st 0 rfl | exact St.rows st 1 rfl | exact St.rows st 2 rfl | exact St.rows st 3 rfl | fail)
    | (with_reducible apply exr6; case h => first | exact St.rows st 0 rfl | exact St.rows st 1 rfl | exact St.rows st 2 rfl | exact St.rows st 3 rfl | fail)
    | (with_reducible apply exWr; case h => first | exact St.wr st 0 rfl rfl | exact St.wr st 1 rfl rfl | exact St.wr st 2 rfl rfl | exact St.wr st 3 rfl rfl | fail)
    | (with_reducible apply exWrRow; case h => first | exact St.wrRow st 0 rfl rfl rfl | exact St.wrRow st 1 rfl rfl rfl | exact St.wrRow st 2 rfl rfl rfl | exact St.wrRow st 3 rfl rfl rfl | fail)
    | (with_reducible refine LetW.cell ?_; (first | refine St.store st 0 rfl ?_ | refine St.store st 1 rfl ?_ | refine St.store st 2 rfl ?_ | refine St.store st 3 rfl ?_ | fail); (try clear st); intro w st; simp only [List.set] at st)
    | (with_reducible refine LetW.rows ?_; (first | refine St.storeRow st 0 rfl ?_ | refine St.storeRow st 1 rfl ?_ | refine St.storeRow st 2 rfl ?_ | refine St.storeRow st 3 rfl ?_ | fail); (try clear st); intro w st; simp only [List.set, setsL] at st)
    | ((with_reducible apply exr4); case h => first | exact St.rowAt st 0 rfl rfl | exact St.rowAt st 1 rfl rfl | exact St.rowAt st 2 rfl rfl | exact St.rowAt st 3 rfl rfl | fail)
    | ((with_reducible apply exr5); case h => first | exact St.rowAt st 0 rfl rfl | exact St.rowAt st 1 rfl rfl | exact St.rowAt st 2 rfl rfl | exact St.rowAt st 3 rfl rfl | fail)
    | ((with_reducible apply exr6); case h => first | exact St.rowAt st 0 rfl rfl | exact St.rowAt st 1 rfl rfl | exact St.rowAt st 2 rfl rfl | exact St.rowAt st 3 rfl rfl | fail)
    | with_reducible refine LetI.id (by omega) (by omega) ?_
    | with_reducible refine Br.dec (fun h => ?_) (fun h => ?_)
    | with_reducible refine Br.eqi (fun h => ?_) (fun h => ?_)
    | with_reducible refine Br.nei (fun h => ?_) (fun h => ?_)
    | with_reducible refine Br.eqs' (fun h => ?_) (fun h => ?_)
    | with_reducible refine Br.eqs (fun h => ?_) (fun h => ?_)
    | with_reducible refine Br.not ?_
    | with_reducible refine Br.and_ ?_
    | with_reducible refine Br.sure rfl ?_
    | with_reducible refine Br.nay rfl ?_
    | with_reducible refine Br.eqb (fun h => ?_) (fun h => ?_)
    | with_reducible refine Br.bool (fun h => ?_) (fun h => ?_)
    | fail
  all_goals refine ⟨?_, st.kp⟩
  all_goals rw [show mk (encI r.code) ++ mk (encT r.val) ++ mk (encI r.ver) ++ mk (encI r.at_) = mk (encR r) by simp only [mk_append, encR, List.append_assoc]]
  all_goals refine congrArg (fun b => Ending.returned (Value.tuple #[Value.string (mk (encR r)), Value.bool b])) ?_
  all_goals first
    | (rw [decide_eq_decide]; unfold okR; exact ⟨fun hh => ⟨by omega, by omega, by omega, by assumption, hh⟩, fun hh => hh.2.2.2.2⟩)
    | (symm; rw [decide_eq_false_iff_not]; unfold okR; rintro ⟨h1, h2, h3, h4, h5⟩; first | contradiction | omega)
set_option maxRecDepth 100000 in
set_option maxHeartbeats 2000000 in
theorem fentry_pu (t : Ent) : Pu Try.prog 104 #[.agg #[.int .i64 t.idx, .int .i64 t.cl, .int .i64 t.sq, .int .i64 t.op.kind, .string (mk t.op.key), .string (mk t.op.val), .int .i64 t.op.ver]] (.tuple #[.string (mk (encI t.idx ++ (encI t.cl ++ (encI t.sq ++ (putO t.op).1)))), .bool (decide (okE t))]) := by
  intro w0
  have st : St No w0 w0 [] := St.start w0
  have a1 : (mk (encI t.idx)).size ≤ 9 := encI_len _
  have a2 : (mk (encI t.cl)).size ≤ 9 := encI_len _
  have a3 : (mk (encI t.sq)).size ≤ 9 := encI_len _
  have a4 : (mk (putO t.op).1).size ≤ 116 := by
    unfold putO
    split
    · show (0 : Nat) ≤ 116; omega
    · exact encO_len (by omega)
  have hc : (putO t.op).2 = chkO t.op := by unfold putO; split <;> simp_all
  refine fentry_ok _ _ _ _ _ _ _ _ _ ?_
  unfold fentry
  repeat' first
    | (with_reducible refine St.alloc st ?_; (try clear st); intro b w st)
    | with_reducible refine sz_and (by (repeat rw [ByteArray.size_append]); omega) ?_
    | (refine Pu.go (oput_pu t.op) st ?_; (try clear st); intro w st; refine ⟨_, _, rfl, ?_⟩)
    | (refine Pu.go (fgood_pu _) st ?_; (try clear st); intro w st; refine ⟨_, rfl, ?_⟩)
    | (refine Pu.go (int_pu _) st ?_; (try clear st); intro w st; refine ⟨_, rfl, ?_⟩)
    | (with_reducible apply ex0c; case h => first | exact St.cell st 0 rfl rfl | exact St.cell st 1 rfl rfl | exact St.cell st 2 rfl rfl | exact St.cell st 3 rfl rfl | fail)
    | (with_reducible apply ex1c; case h => first | exact St.cell st 0 rfl rfl | exact St.cell st 1 rfl rfl | exact St.cell st 2 rfl rfl | exact St.cell st 3 rfl rfl | fail)
    | (with_reducible apply ex3c; case h => first | exact St.cell st 0 rfl rfl | exact St.cell st 1 rfl rfl | exact St.cell st 2 rfl rfl | exact St.cell st 3 rfl rfl | fail)
    | (with_reducible apply ex0r; case h => first | exact St.rows st 0 rfl | exact St.rows st 1 rfl | exact St.rows st 2 rfl | exact St.rows st 3 rfl | fail)
    | (with_reducible apply exr2; case h => first | exact St.rows st 0 rfl | exact St.rows st 1 rfl | exact St.rows st 2 rfl | exact St.rows st 3 rfl | fail)
    | (with_reducible apply exr3; case h => first | exact St.rows st 0 rfl | exact St.rows st 1 rfl | exact St.rows st 2 rfl | exact St.rows st 3 rfl | fail)
    | (with_reducible apply exr4; case h => first | exact St.rows st 0 rfl | exact St.rows st 1 rfl | exact St.rows st 2 rfl | exact St.rows st 3 rfl | fail)
    | (with_reducible apply exr5; case h => first | exact St.rows st 0 rfl | exact St.rows st 1 rfl | exact St.rows st 2 rfl | exact St.rows st 3 rfl | fail)
    | (with_reducible apply exr6; case h => first | exact St.rows st 0 rfl | exact St.rows st 1 rfl | exact St.rows st 2 rfl | exact St.rows st 3 rfl | fail)
    | (with_reducible apply exWr; case h => first | exact St.wr st 0 rfl rfl | exact St.wr st 1 rfl rfl | exact St.wr st 2 rfl rfl | exact St.wr st 3 rfl rfl | fail)
    | (with_reducible apply exWrRow; case h => first | exact St.wrRow st 0 rfl rfl rfl | exact St.wrRow st 1 rfl rfl rfl | exact St.wrRow st 2 rfl rfl rfl | exact St.wrRow st 3 rfl rfl rfl | fail)
    | (with_reducible refine LetW.cell ?_; (first | refine St.store st 0 rfl ?_ | refine St.store st 1 rfl ?_ | refine St.store st 2 rfl ?_ | refine St.store st 3 rfl ?_ | fail); (try clear st); intro w st; simp only [List.set] at st)
    | (with_reducible refine LetW.rows ?_; (first | refine St.storeRow st 0 rfl ?_ | refine St.storeRow st 1 rfl ?_ | refine St.storeRow st 2 rfl ?_ | refine St.storeRow st 3 rfl ?_ | fail); (try clear st); intro w st; simp only [List.set, setsL] at st)
    | ((with_reducible apply exr4); case h => first | exact St.rowAt st 0 rfl rfl | exact St.rowAt st 1 rfl rfl | exact St.rowAt st 2 rfl rfl | exact St.rowAt st 3 rfl rfl | fail)
    | ((with_reducible apply exr5); case h => first | exact St.rowAt st 0 rfl rfl | exact St.rowAt st 1 rfl rfl | exact St.rowAt st 2 rfl rfl | exact St.rowAt st 3 rfl rfl | fail)
    | ((with_reducible apply exr6); case h => first | exact St.rowAt st 0 rfl rfl | exact St.rowAt st 1 rfl rfl | exact St.rowAt st 2 rfl rfl | exact St.rowAt st 3 rfl rfl | fail)
    | with_reducible refine LetI.id (by omega) (by omega) ?_
    | with_reducible refine Br.dec (fun h => ?_) (fun h => ?_)
    | with_reducible refine Br.eqi (fun h => ?_) (fun h => ?_)
    | with_reducible refine Br.nei (fun h => ?_) (fun h => ?_)
    | with_reducible refine Br.eqs' (fun h => ?_) (fun h => ?_)
    | with_reducible refine Br.eqs (fun h => ?_) (fun h => ?_)
    | with_reducible refine Br.not ?_
    | with_reducible refine Br.and_ ?_
    | with_reducible refine Br.sure rfl ?_
    | with_reducible refine Br.nay rfl ?_
    | with_reducible refine Br.eqb (fun h => ?_) (fun h => ?_)
    | with_reducible refine Br.bool (fun h => ?_) (fun h => ?_)
    | fail
  all_goals refine ⟨?_, st.kp⟩
  all_goals rw [show mk (encI t.idx) ++ mk (encI t.cl) ++ mk (encI t.sq) ++ mk (putO t.op).1 = mk (encI t.idx ++ (encI t.cl ++ (encI t.sq ++ (putO t.op).1))) by simp only [mk_append, List.append_assoc]]
  all_goals refine congrArg (fun b => Ending.returned (Value.tuple #[Value.string (mk (encI t.idx ++ (encI t.cl ++ (encI t.sq ++ (putO t.op).1)))), Value.bool b])) ?_
  all_goals first
    | (rw [decide_eq_decide]; unfold okE; exact ⟨fun hh => ⟨by omega, by assumption, by assumption, hh⟩, fun hh => hh.2.2.2⟩)
    | (symm; rw [decide_eq_false_iff_not]; unfold okE; rintro ⟨h1, h2, h3, h4⟩; first | contradiction | omega)
end Go.Proofs.Ytbdhdjbdooccoaa
