/- The laws of chapter 12, their parts: what is great; the chapter's chain. -/
import Derived.Test.YtbdhdjbdooccoaaCT
namespace Go.Proofs.Ytbdhdjbdooccoaa
open Go.Vc Go.Codec

theorem cgreat_pu (e : Int) (p : Option Addr) (n k : Nat) (d : Int) : Pu Try.prog 25 #[chV e p n k d] (.bool (decide (12 < n))) := by
  intro w0
  have st : St No w0 w0 [] := St.start w0
  refine cgreat_ok _ _ _ _ _ _ _ ?_
  unfold cgreat
  repeat' first
    | (with_reducible refine St.alloc st ?_; clear st; intro b w st)
    | with_reducible refine sz_and (by (repeat rw [ByteArray.size_append]); omega) ?_
    | (with_reducible apply ex0c; case h => first | exact St.cell st 0 rfl rfl | exact St.cell st 1 rfl rfl | exact St.cell st 2 rfl rfl | exact St.cell st 3 rfl rfl | fail)
    | (with_reducible apply ex1c; case h => first | exact St.cell st 0 rfl rfl | exact St.cell st 1 rfl rfl | exact St.cell st 2 rfl rfl | exact St.cell st 3 rfl rfl | fail)
    | (with_reducible apply ex3c; case h => first | exact St.cell st 0 rfl rfl | exact St.cell st 1 rfl rfl | exact St.cell st 2 rfl rfl | exact St.cell st 3 rfl rfl | fail)
    | (with_reducible apply ex0r; case h => first | exact St.rows st 0 rfl | exact St.rows st 1 rfl | exact St.rows st 2 rfl | exact St.rows st 3 rfl | fail)
    | (with_reducible apply exr2; case h => first | exact St.rows st 0 rfl | exact St.rows st 1 rfl | exact St.rows st 2 rfl | exact St.rows st 3 rfl | fail)
    | (with_reducible apply exr3; case h => first | exact St.rows st 0 rfl | exact St.rows st 1 rfl | exact St.rows st 2 rfl | exact St.rows st 3 rfl | fail)
    | (with_reducible apply exr4; case h => first | exact St.rows st 0 rfl | exact St.rows st 1 rfl | exact St.rows st 2 rfl | exact St.rows st 3 rfl | fail)
    | (with_reducible apply exr5; case h => first | exact St.rows st 0 rfl | exact St.rows st 1 rfl | exact St.rows st 2 rfl | exact St.rows st 3 rfl | fail)
    | (with_reducible apply exr6; case h => first | exact St.rows st 0 rfl | exact St.rows st 1 rfl | exact St.rows st 2 rfl | exact St.rows st 3 rfl | fail)
    | (with_reducible apply exr7; case h => first | exact St.rows st 0 rfl | exact St.rows st 1 rfl | exact St.rows st 2 rfl | exact St.rows st 3 rfl | fail)
    | (with_reducible apply exr8; case h => first | exact St.rows st 0 rfl | exact St.rows st 1 rfl | exact St.rows st 2 rfl | exact St.rows st 3 rfl | fail)
    | (with_reducible apply exWr; case h => first | exact St.wr st 0 rfl rfl | exact St.wr st 1 rfl rfl | exact St.wr st 2 rfl rfl | exact St.wr st 3 rfl rfl | fail)
    | (with_reducible apply exWrRow; case h => first | exact St.wrRow st 0 rfl rfl rfl | exact St.wrRow st 1 rfl rfl rfl | exact St.wrRow st 2 rfl rfl rfl | exact St.wrRow st 3 rfl rfl rfl | fail)
    | (with_reducible refine LetW.cell ?_; (first | refine St.store st 0 rfl ?_ | refine St.store st 1 rfl ?_ | refine St.store st 2 rfl ?_ | refine St.store st 3 rfl ?_ | fail); clear st; intro w st; simp only [List.set] at st)
    | (with_reducible refine LetW.rows ?_; (first | refine St.storeRow st 0 rfl ?_ | refine St.storeRow st 1 rfl ?_ | refine St.storeRow st 2 rfl ?_ | refine St.storeRow st 3 rfl ?_ | fail); clear st; intro w st; simp only [List.set, setsL] at st)
    | with_reducible refine LetI.id (by omega) (by omega) ?_
    | with_reducible refine Br.dec (fun h => ?_) (fun h => ?_)
    | with_reducible refine Br.eqi (fun h => ?_) (fun h => ?_)
    | with_reducible refine Br.nei (fun h => ?_) (fun h => ?_)
    | with_reducible refine Br.eqs' (fun h => ?_) (fun h => ?_)
    | with_reducible refine Br.eqs (fun h => ?_) (fun h => ?_)
    | with_reducible refine Br.not ?_
    | with_reducible refine Br.and_ ?_
    | with_reducible refine Br.sure rfl ?_
    | with_reducible refine Br.nay rfl ?_
    | with_reducible refine Br.eqb (fun h => ?_) (fun h => ?_)
    | with_reducible refine Br.bool (fun h => ?_) (fun h => ?_)
    | fail
  refine ⟨?_, st.kp⟩
  refine congrArg (fun b => Ending.returned (Value.bool b)) (Bool.eq_iff_iff.2 ⟨fun h' => decide_eq_true (by have := of_decide_eq_true h'; omega), fun h' => decide_eq_true (by have := of_decide_eq_true h'; omega)⟩)
theorem rowM {w : World} {B n c : Nat} {a : Addr} {l : List (Int × Int)} (h : w.ownsRow B 43 2 (.slice (some a) n c) n (cellsOf memE l)) (hn : n = l.length) (i : Nat) (hi : i < l.length) : Row w (a.add (i * 2)) 0 (memE l[i]) := by
  obtain ⟨a', ha, hr⟩ := (ElAt.of_owns memE_len h hn : MemAt w (some a) l) i hi
  cases ha
  exact hr
abbrev lc : Chn := ⟨3, [(2, 1), (0, 3)], -1⟩
theorem memL {w : World} {b : Nat} (h : Blk w b 43 #[.int .i64 2, .int .i64 1, .int .i64 0, .int .i64 3]) : MemAt w (some ⟨b, 0, none⟩) lc.mem :=
  ElAt.of_cells memE_len rfl fun j u hu => by rw [add_head]; exact Blk.at_ h (by simpa [cellsOf] using hu)
theorem NewM.some_ {w w' : World} {l : List (Int × Int)} {p : Option Addr} {k : Nat} (h : NewM w l p k w') (hl : 0 < l.length) : ∃ a, p = some a := h.at_.some_ hl
theorem with_l {w : World} {p : Option Addr} {k : Nat} (hM : MemAt w p lc.mem) : Ca Try.prog 27 #[chV 3 p 2 k (-1), .int .i64 1] w fun e w' => ∃ a k', e = .returned (.tuple #[chV 4 (some a) 3 k' (-1), .int .i64 0]) ∧ NewM w [(2, 1), (0, 3), (1, 4)] (some a) k' w' := by
  have h := cwith_ca (c := lc) (k := k) hM rfl (by decide) 1
  rw [show withC lc 1 = (⟨4, [(2, 1), (0, 3), (1, 4)], -1⟩, 0) by decide] at h
  refine h.mono ?_
  rintro e w' ⟨_, rfl, p', k', rfl, h⟩
  obtain ⟨a, rfl⟩ := h.some_ (by decide)
  exact ⟨a, k', rfl, h⟩
theorem without_l {w : World} {p : Option Addr} {k : Nat} (hM : MemAt w p lc.mem) : Ca Try.prog 29 #[chV 3 p 2 k (-1), .int .i64 2] w fun e w' => ∃ a k', e = .returned (.tuple #[chV 4 (some a) 1 k' (-1), .int .i64 0]) ∧ NewM w [(0, 3)] (some a) k' w' := by
  have h := cwithout_ca (c := lc) (k := k) hM rfl (by decide) 2
  rw [show withoutC lc 2 = (⟨4, [(0, 3)], -1⟩, 0) by decide] at h
  refine h.mono ?_
  rintro e w' ⟨_, rfl, p', k', rfl, h⟩
  obtain ⟨a, rfl⟩ := h.some_ (by decide)
  exact ⟨a, k', rfl, h⟩
theorem drain_l {w : World} {p : Option Addr} {k : Nat} (hM : MemAt w p lc.mem) : Ca Try.prog 31 #[chV 3 p 2 k (-1), .int .i64 0] w fun e w' => ∃ a k', e = .returned (.tuple #[chV 4 (some a) 2 k' 0, .int .i64 0]) ∧ NewM w [(2, 1), (0, 3)] (some a) k' w' := by
  have h := cdrain_ca (c := lc) (k := k) hM rfl (by decide) 0
  rw [show drainC lc 0 = (⟨4, [(2, 1), (0, 3)], 0⟩, 0) by decide] at h
  refine h.mono ?_
  rintro e w' ⟨_, rfl, p', k', rfl, h⟩
  obtain ⟨a, rfl⟩ := h.some_ (by decide)
  exact ⟨a, k', rfl, h⟩
theorem drain_l2 {w : World} {p : Option Addr} {k : Nat} (hM : MemAt w p [(2, 1), (0, 3)]) : Ca Try.prog 31 #[chV 4 p 2 k 0, .int .i64 2] w fun e w' => ∃ p' k', e = .returned (.tuple #[chV 0 p' 0 k' 0, .int .i64 62]) ∧ NewM w [] p' k' w' := by
  have h := cdrain_ca (c := ⟨4, [(2, 1), (0, 3)], 0⟩) (k := k) hM rfl (by decide) 2
  rw [show drainC ⟨4, [(2, 1), (0, 3)], 0⟩ 2 = (.none, 62) by decide] at h
  refine h.mono ?_
  rintro e w' ⟨_, rfl, p', k', rfl, h⟩
  exact ⟨p', k', rfl, h⟩
set_option maxHeartbeats 1000000 in
theorem linked_pu : Pu Try.prog 26 #[] (.bool true) := by
  intro w0
  have st : St No w0 w0 [] := St.start w0
  refine linked_ok _ _ ?_
  unfold linked
  repeat' first
    | (with_reducible refine St.alloc st ?_; clear st; intro b w st)
    | with_reducible refine sz_and (by (repeat rw [ByteArray.size_append]); omega) ?_
    | (with_reducible apply ex0c; case h => first | exact St.cell st 0 rfl rfl | exact St.cell st 1 rfl rfl | exact St.cell st 2 rfl rfl | exact St.cell st 3 rfl rfl | fail)
    | (with_reducible apply ex1c; case h => first | exact St.cell st 0 rfl rfl | exact St.cell st 1 rfl rfl | exact St.cell st 2 rfl rfl | exact St.cell st 3 rfl rfl | fail)
    | (with_reducible apply ex3c; case h => first | exact St.cell st 0 rfl rfl | exact St.cell st 1 rfl rfl | exact St.cell st 2 rfl rfl | exact St.cell st 3 rfl rfl | fail)
    | (with_reducible apply ex0r; case h => first | exact St.rows st 0 rfl | exact St.rows st 1 rfl | exact St.rows st 2 rfl | exact St.rows st 3 rfl | fail)
    | (with_reducible apply exr2; case h => first | exact St.rows st 0 rfl | exact St.rows st 1 rfl | exact St.rows st 2 rfl | exact St.rows st 3 rfl | fail)
    | (with_reducible apply exr3; case h => first | exact St.rows st 0 rfl | exact St.rows st 1 rfl | exact St.rows st 2 rfl | exact St.rows st 3 rfl | fail)
    | (with_reducible apply exr4; case h => first | exact St.rows st 0 rfl | exact St.rows st 1 rfl | exact St.rows st 2 rfl | exact St.rows st 3 rfl | fail)
    | (with_reducible apply exr5; case h => first | exact St.rows st 0 rfl | exact St.rows st 1 rfl | exact St.rows st 2 rfl | exact St.rows st 3 rfl | fail)
    | (with_reducible apply exr6; case h => first | exact St.rows st 0 rfl | exact St.rows st 1 rfl | exact St.rows st 2 rfl | exact St.rows st 3 rfl | fail)
    | (with_reducible apply exr7; case h => first | exact St.rows st 0 rfl | exact St.rows st 1 rfl | exact St.rows st 2 rfl | exact St.rows st 3 rfl | fail)
    | (with_reducible apply exr8; case h => first | exact St.rows st 0 rfl | exact St.rows st 1 rfl | exact St.rows st 2 rfl | exact St.rows st 3 rfl | fail)
    | (with_reducible apply exWr; case h => first | exact St.wr st 0 rfl rfl | exact St.wr st 1 rfl rfl | exact St.wr st 2 rfl rfl | exact St.wr st 3 rfl rfl | fail)
    | (with_reducible apply exWrRow; case h => first | exact St.wrRow st 0 rfl rfl rfl | exact St.wrRow st 1 rfl rfl rfl | exact St.wrRow st 2 rfl rfl rfl | exact St.wrRow st 3 rfl rfl rfl | fail)
    | (with_reducible refine LetW.cell ?_; (first | refine St.store st 0 rfl ?_ | refine St.store st 1 rfl ?_ | refine St.store st 2 rfl ?_ | refine St.store st 3 rfl ?_ | fail); clear st; intro w st; simp only [List.set] at st)
    | (with_reducible refine LetW.rows ?_; (first | refine St.storeRow st 0 rfl ?_ | refine St.storeRow st 1 rfl ?_ | refine St.storeRow st 2 rfl ?_ | refine St.storeRow st 3 rfl ?_ | fail); clear st; intro w st; simp only [List.set, setsL] at st)
    | with_reducible refine LetI.id (by omega) (by omega) ?_
    | fail
  refine (with_l (by first | exact memL (st.hold 0 _ rfl) | exact memL (st.hold 1 _ rfl) | exact memL (st.hold 2 _ rfl) | exact memL (st.hold 3 _ rfl) | exact memL (st.hold 4 _ rfl) | exact memL (st.hold 5 _ rfl) | exact memL (st.hold 6 _ rfl) | exact memL (st.hold 7 _ rfl) | exact memL (st.hold 8 _ rfl) | exact memL (st.hold 9 _ rfl) | exact memL (st.hold 10 _ rfl))).mono ?_
  rintro _ w ⟨a, k1, rfl, ho, hk⟩; replace st := st.pushRow hk ho; clear ho hk; refine ⟨_, _, _, _, _, _, rfl, ?_⟩
  repeat' first
    | (with_reducible refine St.alloc st ?_; clear st; intro b w st)
    | with_reducible refine sz_and (by (repeat rw [ByteArray.size_append]); omega) ?_
    | (with_reducible apply ex0c; case h => first | exact St.cell st 0 rfl rfl | exact St.cell st 1 rfl rfl | exact St.cell st 2 rfl rfl | exact St.cell st 3 rfl rfl | exact St.cell st 4 rfl rfl | fail)
    | (with_reducible apply ex1c; case h => first | exact St.cell st 0 rfl rfl | exact St.cell st 1 rfl rfl | exact St.cell st 2 rfl rfl | exact St.cell st 3 rfl rfl | exact St.cell st 4 rfl rfl | fail)
    | (with_reducible apply ex3c; case h => first | exact St.cell st 0 rfl rfl | exact St.cell st 1 rfl rfl | exact St.cell st 2 rfl rfl | exact St.cell st 3 rfl rfl | exact St.cell st 4 rfl rfl | fail)
    | (with_reducible apply ex0r; case h => first | exact St.rows st 0 rfl | exact St.rows st 1 rfl | exact St.rows st 2 rfl | exact St.rows st 3 rfl | exact St.rows st 4 rfl | fail)
    | (with_reducible apply exr2; case h => first | exact St.rows st 0 rfl | exact St.rows st 1 rfl | exact St.rows st 2 rfl | exact St.rows st 3 rfl | exact St.rows st 4 rfl | fail)
    | (with_reducible apply exr3; case h => first | exact St.rows st 0 rfl | exact St.rows st 1 rfl | exact St.rows st 2 rfl | exact St.rows st 3 rfl | exact St.rows st 4 rfl | fail)
    | (with_reducible apply exr4; case h => first | exact St.rows st 0 rfl | exact St.rows st 1 rfl | exact St.rows st 2 rfl | exact St.rows st 3 rfl | exact St.rows st 4 rfl | fail)
    | (with_reducible apply exr5; case h => first | exact St.rows st 0 rfl | exact St.rows st 1 rfl | exact St.rows st 2 rfl | exact St.rows st 3 rfl | exact St.rows st 4 rfl | fail)
    | (with_reducible apply exr6; case h => first | exact St.rows st 0 rfl | exact St.rows st 1 rfl | exact St.rows st 2 rfl | exact St.rows st 3 rfl | exact St.rows st 4 rfl | fail)
    | (with_reducible apply exr7; case h => first | exact St.rows st 0 rfl | exact St.rows st 1 rfl | exact St.rows st 2 rfl | exact St.rows st 3 rfl | exact St.rows st 4 rfl | fail)
    | (with_reducible apply exr8; case h => first | exact St.rows st 0 rfl | exact St.rows st 1 rfl | exact St.rows st 2 rfl | exact St.rows st 3 rfl | exact St.rows st 4 rfl | fail)
    | (with_reducible apply exWr; case h => first | exact St.wr st 0 rfl rfl | exact St.wr st 1 rfl rfl | exact St.wr st 2 rfl rfl | exact St.wr st 3 rfl rfl | exact St.wr st 4 rfl rfl | fail)
    | (with_reducible apply exWrRow; case h => first | exact St.wrRow st 0 rfl rfl rfl | exact St.wrRow st 1 rfl rfl rfl | exact St.wrRow st 2 rfl rfl rfl | exact St.wrRow st 3 rfl rfl rfl | exact St.wrRow st 4 rfl rfl rfl | fail)
    | (with_reducible refine LetW.cell ?_; (first | refine St.store st 0 rfl ?_ | refine St.store st 1 rfl ?_ | refine St.store st 2 rfl ?_ | refine St.store st 3 rfl ?_ | refine St.store st 4 rfl ?_ | fail); clear st; intro w st; simp only [List.set] at st)
    | (with_reducible refine LetW.rows ?_; (first | refine St.storeRow st 0 rfl ?_ | refine St.storeRow st 1 rfl ?_ | refine St.storeRow st 2 rfl ?_ | refine St.storeRow st 3 rfl ?_ | refine St.storeRow st 4 rfl ?_ | fail); clear st; intro w st; simp only [List.set, setsL] at st)
    | with_reducible refine LetI.id (by omega) (by omega) ?_
    | fail
  refine (without_l (by first | exact memL (st.hold 0 _ rfl) | exact memL (st.hold 1 _ rfl) | exact memL (st.hold 2 _ rfl) | exact memL (st.hold 3 _ rfl) | exact memL (st.hold 4 _ rfl) | exact memL (st.hold 5 _ rfl) | exact memL (st.hold 6 _ rfl) | exact memL (st.hold 7 _ rfl) | exact memL (st.hold 8 _ rfl) | exact memL (st.hold 9 _ rfl) | exact memL (st.hold 10 _ rfl))).mono ?_
  rintro _ w ⟨a, k1, rfl, ho, hk⟩; replace st := st.pushRow hk ho; clear ho hk; refine ⟨_, _, _, _, _, _, rfl, ?_⟩
  repeat' first
    | (with_reducible refine St.alloc st ?_; clear st; intro b w st)
    | with_reducible refine sz_and (by (repeat rw [ByteArray.size_append]); omega) ?_
    | (with_reducible apply ex0c; case h => first | exact St.cell st 0 rfl rfl | exact St.cell st 1 rfl rfl | exact St.cell st 2 rfl rfl | exact St.cell st 3 rfl rfl | exact St.cell st 4 rfl rfl | exact St.cell st 5 rfl rfl | exact St.cell st 6 rfl rfl | fail)
    | (with_reducible apply ex1c; case h => first | exact St.cell st 0 rfl rfl | exact St.cell st 1 rfl rfl | exact St.cell st 2 rfl rfl | exact St.cell st 3 rfl rfl | exact St.cell st 4 rfl rfl | exact St.cell st 5 rfl rfl | exact St.cell st 6 rfl rfl | fail)
    | (with_reducible apply ex3c; case h => first | exact St.cell st 0 rfl rfl | exact St.cell st 1 rfl rfl | exact St.cell st 2 rfl rfl | exact St.cell st 3 rfl rfl | exact St.cell st 4 rfl rfl | exact St.cell st 5 rfl rfl | exact St.cell st 6 rfl rfl | fail)
    | (with_reducible apply ex0r; case h => first | exact St.rows st 0 rfl | exact St.rows st 1 rfl | exact St.rows st 2 rfl | exact St.rows st 3 rfl | exact St.rows st 4 rfl | exact St.rows st 5 rfl | exact St.rows st 6 rfl | fail)
    | (with_reducible apply exr2; case h => first | exact St.rows st 0 rfl | exact St.rows st 1 rfl | exact St.rows st 2 rfl | exact St.rows st 3 rfl | exact St.rows st 4 rfl | exact St.rows st 5 rfl | exact St.rows st 6 rfl | fail)
    | (with_reducible apply exr3; case h => first | exact St.rows st 0 rfl | exact St.rows st 1 rfl | exact St.rows st 2 rfl | exact St.rows st 3 rfl | exact St.rows st 4 rfl | exact St.rows st 5 rfl | exact St.rows st 6 rfl | fail)
    | (with_reducible apply exr4; case h => first | exact St.rows st 0 rfl | exact St.rows st 1 rfl | exact St.rows st 2 rfl | exact St.rows st 3 rfl | exact St.rows st 4 rfl | exact St.rows st 5 rfl | exact St.rows st 6 rfl | fail)
    | (with_reducible apply exr5; case h => first | exact St.rows st 0 rfl | exact St.rows st 1 rfl | exact St.rows st 2 rfl | exact St.rows st 3 rfl | exact St.rows st 4 rfl | exact St.rows st 5 rfl | exact St.rows st 6 rfl | fail)
    | (with_reducible apply exr6; case h => first | exact St.rows st 0 rfl | exact St.rows st 1 rfl | exact St.rows st 2 rfl | exact St.rows st 3 rfl | exact St.rows st 4 rfl | exact St.rows st 5 rfl | exact St.rows st 6 rfl | fail)
    | (with_reducible apply exr7; case h => first | exact St.rows st 0 rfl | exact St.rows st 1 rfl | exact St.rows st 2 rfl | exact St.rows st 3 rfl | exact St.rows st 4 rfl | exact St.rows st 5 rfl | exact St.rows st 6 rfl | fail)
    | (with_reducible apply exr8; case h => first | exact St.rows st 0 rfl | exact St.rows st 1 rfl | exact St.rows st 2 rfl | exact St.rows st 3 rfl | exact St.rows st 4 rfl | exact St.rows st 5 rfl | exact St.rows st 6 rfl | fail)
    | (with_reducible apply exWr; case h => first | exact St.wr st 0 rfl rfl | exact St.wr st 1 rfl rfl | exact St.wr st 2 rfl rfl | exact St.wr st 3 rfl rfl | exact St.wr st 4 rfl rfl | exact St.wr st 5 rfl rfl | exact St.wr st 6 rfl rfl | fail)
    | (with_reducible apply exWrRow; case h => first | exact St.wrRow st 0 rfl rfl rfl | exact St.wrRow st 1 rfl rfl rfl | exact St.wrRow st 2 rfl rfl rfl | exact St.wrRow st 3 rfl rfl rfl | exact St.wrRow st 4 rfl rfl rfl | exact St.wrRow st 5 rfl rfl rfl | exact St.wrRow st 6 rfl rfl rfl | fail)
    | (with_reducible refine LetW.cell ?_; (first | refine St.store st 0 rfl ?_ | refine St.store st 1 rfl ?_ | refine St.store st 2 rfl ?_ | refine St.store st 3 rfl ?_ | refine St.store st 4 rfl ?_ | refine St.store st 5 rfl ?_ | refine St.store st 6 rfl ?_ | fail); clear st; intro w st; simp only [List.set] at st)
    | (with_reducible refine LetW.rows ?_; (first | refine St.storeRow st 0 rfl ?_ | refine St.storeRow st 1 rfl ?_ | refine St.storeRow st 2 rfl ?_ | refine St.storeRow st 3 rfl ?_ | refine St.storeRow st 4 rfl ?_ | refine St.storeRow st 5 rfl ?_ | refine St.storeRow st 6 rfl ?_ | fail); clear st; intro w st; simp only [List.set, setsL] at st)
    | with_reducible refine LetI.id (by omega) (by omega) ?_
    | fail
  refine (drain_l (by first | exact memL (st.hold 0 _ rfl) | exact memL (st.hold 1 _ rfl) | exact memL (st.hold 2 _ rfl) | exact memL (st.hold 3 _ rfl) | exact memL (st.hold 4 _ rfl) | exact memL (st.hold 5 _ rfl) | exact memL (st.hold 6 _ rfl) | exact memL (st.hold 7 _ rfl) | exact memL (st.hold 8 _ rfl) | exact memL (st.hold 9 _ rfl) | exact memL (st.hold 10 _ rfl))).mono ?_
  rintro _ w ⟨a, k1, rfl, ho, hk⟩; replace st := st.pushRow hk ho; clear ho hk; refine ⟨_, _, _, _, _, _, rfl, ?_⟩
  repeat' first
    | (with_reducible refine St.alloc st ?_; clear st; intro b w st)
    | with_reducible refine sz_and (by (repeat rw [ByteArray.size_append]); omega) ?_
    | (with_reducible apply ex0c; case h => first | exact St.cell st 0 rfl rfl | exact St.cell st 1 rfl rfl | exact St.cell st 2 rfl rfl | exact St.cell st 3 rfl rfl | exact St.cell st 4 rfl rfl | exact St.cell st 5 rfl rfl | exact St.cell st 6 rfl rfl | exact St.cell st 7 rfl rfl | exact St.cell st 8 rfl rfl | fail)
    | (with_reducible apply ex1c; case h => first | exact St.cell st 0 rfl rfl | exact St.cell st 1 rfl rfl | exact St.cell st 2 rfl rfl | exact St.cell st 3 rfl rfl | exact St.cell st 4 rfl rfl | exact St.cell st 5 rfl rfl | exact St.cell st 6 rfl rfl | exact St.cell st 7 rfl rfl | exact St.cell st 8 rfl rfl | fail)
    | (with_reducible apply ex3c; case h => first | exact St.cell st 0 rfl rfl | exact St.cell st 1 rfl rfl | exact St.cell st 2 rfl rfl | exact St.cell st 3 rfl rfl | exact St.cell st 4 rfl rfl | exact St.cell st 5 rfl rfl | exact St.cell st 6 rfl rfl | exact St.cell st 7 rfl rfl | exact St.cell st 8 rfl rfl | fail)
    | (with_reducible apply ex0r; case h => first | exact St.rows st 0 rfl | exact St.rows st 1 rfl | exact St.rows st 2 rfl | exact St.rows st 3 rfl | exact St.rows st 4 rfl | exact St.rows st 5 rfl | exact St.rows st 6 rfl | exact St.rows st 7 rfl | exact St.rows st 8 rfl | fail)
    | (with_reducible apply exr2; case h => first | exact St.rows st 0 rfl | exact St.rows st 1 rfl | exact St.rows st 2 rfl | exact St.rows st 3 rfl | exact St.rows st 4 rfl | exact St.rows st 5 rfl | exact St.rows st 6 rfl | exact St.rows st 7 rfl | exact St.rows st 8 rfl | fail)
    | (with_reducible apply exr3; case h => first | exact St.rows st 0 rfl | exact St.rows st 1 rfl | exact St.rows st 2 rfl | exact St.rows st 3 rfl | exact St.rows st 4 rfl | exact St.rows st 5 rfl | exact St.rows st 6 rfl | exact St.rows st 7 rfl | exact St.rows st 8 rfl | fail)
    | (with_reducible apply exr4; case h => first | exact St.rows st 0 rfl | exact St.rows st 1 rfl | exact St.rows st 2 rfl | exact St.rows st 3 rfl | exact St.rows st 4 rfl | exact St.rows st 5 rfl | exact St.rows st 6 rfl | exact St.rows st 7 rfl | exact St.rows st 8 rfl | fail)
    | (with_reducible apply exr5; case h => first | exact St.rows st 0 rfl | exact St.rows st 1 rfl | exact St.rows st 2 rfl | exact St.rows st 3 rfl | exact St.rows st 4 rfl | exact St.rows st 5 rfl | exact St.rows st 6 rfl | exact St.rows st 7 rfl | exact St.rows st 8 rfl | fail)
    | (with_reducible apply exr6; case h => first | exact St.rows st 0 rfl | exact St.rows st 1 rfl | exact St.rows st 2 rfl | exact St.rows st 3 rfl | exact St.rows st 4 rfl | exact St.rows st 5 rfl | exact St.rows st 6 rfl | exact St.rows st 7 rfl | exact St.rows st 8 rfl | fail)
    | (with_reducible apply exr7; case h => first | exact St.rows st 0 rfl | exact St.rows st 1 rfl | exact St.rows st 2 rfl | exact St.rows st 3 rfl | exact St.rows st 4 rfl | exact St.rows st 5 rfl | exact St.rows st 6 rfl | exact St.rows st 7 rfl | exact St.rows st 8 rfl | fail)
    | (with_reducible apply exr8; case h => first | exact St.rows st 0 rfl | exact St.rows st 1 rfl | exact St.rows st 2 rfl | exact St.rows st 3 rfl | exact St.rows st 4 rfl | exact St.rows st 5 rfl | exact St.rows st 6 rfl | exact St.rows st 7 rfl | exact St.rows st 8 rfl | fail)
    | (with_reducible apply exWr; case h => first | exact St.wr st 0 rfl rfl | exact St.wr st 1 rfl rfl | exact St.wr st 2 rfl rfl | exact St.wr st 3 rfl rfl | exact St.wr st 4 rfl rfl | exact St.wr st 5 rfl rfl | exact St.wr st 6 rfl rfl | exact St.wr st 7 rfl rfl | exact St.wr st 8 rfl rfl | fail)
    | (with_reducible apply exWrRow; case h => first | exact St.wrRow st 0 rfl rfl rfl | exact St.wrRow st 1 rfl rfl rfl | exact St.wrRow st 2 rfl rfl rfl | exact St.wrRow st 3 rfl rfl rfl | exact St.wrRow st 4 rfl rfl rfl | exact St.wrRow st 5 rfl rfl rfl | exact St.wrRow st 6 rfl rfl rfl | exact St.wrRow st 7 rfl rfl rfl | exact St.wrRow st 8 rfl rfl rfl | fail)
    | (with_reducible refine LetW.cell ?_; (first | refine St.store st 0 rfl ?_ | refine St.store st 1 rfl ?_ | refine St.store st 2 rfl ?_ | refine St.store st 3 rfl ?_ | refine St.store st 4 rfl ?_ | refine St.store st 5 rfl ?_ | refine St.store st 6 rfl ?_ | refine St.store st 7 rfl ?_ | refine St.store st 8 rfl ?_ | fail); clear st; intro w st; simp only [List.set] at st)
    | (with_reducible refine LetW.rows ?_; (first | refine St.storeRow st 0 rfl ?_ | refine St.storeRow st 1 rfl ?_ | refine St.storeRow st 2 rfl ?_ | refine St.storeRow st 3 rfl ?_ | refine St.storeRow st 4 rfl ?_ | refine St.storeRow st 5 rfl ?_ | refine St.storeRow st 6 rfl ?_ | refine St.storeRow st 7 rfl ?_ | refine St.storeRow st 8 rfl ?_ | fail); clear st; intro w st; simp only [List.set, setsL] at st)
    | with_reducible refine LetI.id (by omega) (by omega) ?_
    | fail
  refine (drain_l2 (ElAt.of_owns memE_len (st.hold 1 _ rfl) rfl)).mono ?_
  rintro _ w ⟨a, k1, rfl, ho, hk⟩; replace st := st.pushRow hk ho; clear ho hk; refine ⟨_, _, _, _, _, _, rfl, ?_⟩
  repeat' first
    | (with_reducible refine St.alloc st ?_; clear st; intro b w st)
    | with_reducible refine sz_and (by (repeat rw [ByteArray.size_append]); omega) ?_
    | (refine Pw.go (chead_pw (c := lc) (by first | exact memL (st.hold 0 _ rfl) | exact memL (st.hold 1 _ rfl) | exact memL (st.hold 2 _ rfl) | exact memL (st.hold 3 _ rfl) | exact memL (st.hold 4 _ rfl) | exact memL (st.hold 5 _ rfl) | exact memL (st.hold 6 _ rfl) | exact memL (st.hold 7 _ rfl) | exact memL (st.hold 8 _ rfl) | exact memL (st.hold 9 _ rfl) | exact memL (st.hold 10 _ rfl)) rfl) st ?_; clear st; intro w st; refine ⟨_, rfl, ?_⟩)
    | (refine Pw.go (ctail_pw (c := lc) (by first | exact memL (st.hold 0 _ rfl) | exact memL (st.hold 1 _ rfl) | exact memL (st.hold 2 _ rfl) | exact memL (st.hold 3 _ rfl) | exact memL (st.hold 4 _ rfl) | exact memL (st.hold 5 _ rfl) | exact memL (st.hold 6 _ rfl) | exact memL (st.hold 7 _ rfl) | exact memL (st.hold 8 _ rfl) | exact memL (st.hold 9 _ rfl) | exact memL (st.hold 10 _ rfl)) rfl (by decide)) st ?_; clear st; intro w st; refine ⟨_, rfl, ?_⟩)
    | (refine Pw.go (cnext_pw (c := lc) (by first | exact memL (st.hold 0 _ rfl) | exact memL (st.hold 1 _ rfl) | exact memL (st.hold 2 _ rfl) | exact memL (st.hold 3 _ rfl) | exact memL (st.hold 4 _ rfl) | exact memL (st.hold 5 _ rfl) | exact memL (st.hold 6 _ rfl) | exact memL (st.hold 7 _ rfl) | exact memL (st.hold 8 _ rfl) | exact memL (st.hold 9 _ rfl) | exact memL (st.hold 10 _ rfl)) rfl (by decide) _) st ?_; clear st; intro w st; refine ⟨_, rfl, ?_⟩)
    | (refine Pw.go (cprev_pw (c := lc) (by first | exact memL (st.hold 0 _ rfl) | exact memL (st.hold 1 _ rfl) | exact memL (st.hold 2 _ rfl) | exact memL (st.hold 3 _ rfl) | exact memL (st.hold 4 _ rfl) | exact memL (st.hold 5 _ rfl) | exact memL (st.hold 6 _ rfl) | exact memL (st.hold 7 _ rfl) | exact memL (st.hold 8 _ rfl) | exact memL (st.hold 9 _ rfl) | exact memL (st.hold 10 _ rfl)) rfl (by decide) _) st ?_; clear st; intro w st; refine ⟨_, rfl, ?_⟩)
    | (with_reducible apply ex0c; case h => first | exact St.cell st 0 rfl rfl | exact St.cell st 1 rfl rfl | exact St.cell st 2 rfl rfl | exact St.cell st 3 rfl rfl | exact St.cell st 4 rfl rfl | exact St.cell st 5 rfl rfl | exact St.cell st 6 rfl rfl | exact St.cell st 7 rfl rfl | exact St.cell st 8 rfl rfl | exact St.cell st 9 rfl rfl | fail)
    | (with_reducible apply ex1c; case h => first | exact St.cell st 0 rfl rfl | exact St.cell st 1 rfl rfl | exact St.cell st 2 rfl rfl | exact St.cell st 3 rfl rfl | exact St.cell st 4 rfl rfl | exact St.cell st 5 rfl rfl | exact St.cell st 6 rfl rfl | exact St.cell st 7 rfl rfl | exact St.cell st 8 rfl rfl | exact St.cell st 9 rfl rfl | fail)
    | (with_reducible apply ex3c; case h => first | exact St.cell st 0 rfl rfl | exact St.cell st 1 rfl rfl | exact St.cell st 2 rfl rfl | exact St.cell st 3 rfl rfl | exact St.cell st 4 rfl rfl | exact St.cell st 5 rfl rfl | exact St.cell st 6 rfl rfl | exact St.cell st 7 rfl rfl | exact St.cell st 8 rfl rfl | exact St.cell st 9 rfl rfl | fail)
    | (with_reducible apply ex0r; case h => first | exact St.rows st 0 rfl | exact St.rows st 1 rfl | exact St.rows st 2 rfl | exact St.rows st 3 rfl | exact St.rows st 4 rfl | exact St.rows st 5 rfl | exact St.rows st 6 rfl | exact St.rows st 7 rfl | exact St.rows st 8 rfl | exact St.rows st 9 rfl | fail)
    | (with_reducible apply exr2; case h => first | exact St.rows st 0 rfl | exact St.rows st 1 rfl | exact St.rows st 2 rfl | exact St.rows st 3 rfl | exact St.rows st 4 rfl | exact St.rows st 5 rfl | exact St.rows st 6 rfl | exact St.rows st 7 rfl | exact St.rows st 8 rfl | exact St.rows st 9 rfl | fail)
    | (with_reducible apply exr3; case h => first | exact St.rows st 0 rfl | exact St.rows st 1 rfl | exact St.rows st 2 rfl | exact St.rows st 3 rfl | exact St.rows st 4 rfl | exact St.rows st 5 rfl | exact St.rows st 6 rfl | exact St.rows st 7 rfl | exact St.rows st 8 rfl | exact St.rows st 9 rfl | fail)
    | (with_reducible apply exr4; case h => first | exact St.rows st 0 rfl | exact St.rows st 1 rfl | exact St.rows st 2 rfl | exact St.rows st 3 rfl | exact St.rows st 4 rfl | exact St.rows st 5 rfl | exact St.rows st 6 rfl | exact St.rows st 7 rfl | exact St.rows st 8 rfl | exact St.rows st 9 rfl | fail)
    | (with_reducible apply exr5; case h => first | exact St.rows st 0 rfl | exact St.rows st 1 rfl | exact St.rows st 2 rfl | exact St.rows st 3 rfl | exact St.rows st 4 rfl | exact St.rows st 5 rfl | exact St.rows st 6 rfl | exact St.rows st 7 rfl | exact St.rows st 8 rfl | exact St.rows st 9 rfl | fail)
    | (with_reducible apply exr6; case h => first | exact St.rows st 0 rfl | exact St.rows st 1 rfl | exact St.rows st 2 rfl | exact St.rows st 3 rfl | exact St.rows st 4 rfl | exact St.rows st 5 rfl | exact St.rows st 6 rfl | exact St.rows st 7 rfl | exact St.rows st 8 rfl | exact St.rows st 9 rfl | fail)
    | (with_reducible apply exr7; case h => first | exact St.rows st 0 rfl | exact St.rows st 1 rfl | exact St.rows st 2 rfl | exact St.rows st 3 rfl | exact St.rows st 4 rfl | exact St.rows st 5 rfl | exact St.rows st 6 rfl | exact St.rows st 7 rfl | exact St.rows st 8 rfl | exact St.rows st 9 rfl | fail)
    | (with_reducible apply exr8; case h => first | exact St.rows st 0 rfl | exact St.rows st 1 rfl | exact St.rows st 2 rfl | exact St.rows st 3 rfl | exact St.rows st 4 rfl | exact St.rows st 5 rfl | exact St.rows st 6 rfl | exact St.rows st 7 rfl | exact St.rows st 8 rfl | exact St.rows st 9 rfl | fail)
    | (with_reducible apply exWr; case h => first | exact St.wr st 0 rfl rfl | exact St.wr st 1 rfl rfl | exact St.wr st 2 rfl rfl | exact St.wr st 3 rfl rfl | exact St.wr st 4 rfl rfl | exact St.wr st 5 rfl rfl | exact St.wr st 6 rfl rfl | exact St.wr st 7 rfl rfl | exact St.wr st 8 rfl rfl | exact St.wr st 9 rfl rfl | fail)
    | (with_reducible apply exWrRow; case h => first | exact St.wrRow st 0 rfl rfl rfl | exact St.wrRow st 1 rfl rfl rfl | exact St.wrRow st 2 rfl rfl rfl | exact St.wrRow st 3 rfl rfl rfl | exact St.wrRow st 4 rfl rfl rfl | exact St.wrRow st 5 rfl rfl rfl | exact St.wrRow st 6 rfl rfl rfl | exact St.wrRow st 7 rfl rfl rfl | exact St.wrRow st 8 rfl rfl rfl | exact St.wrRow st 9 rfl rfl rfl | fail)
    | (with_reducible refine LetW.cell ?_; (first | refine St.store st 0 rfl ?_ | refine St.store st 1 rfl ?_ | refine St.store st 2 rfl ?_ | refine St.store st 3 rfl ?_ | refine St.store st 4 rfl ?_ | refine St.store st 5 rfl ?_ | refine St.store st 6 rfl ?_ | refine St.store st 7 rfl ?_ | refine St.store st 8 rfl ?_ | refine St.store st 9 rfl ?_ | fail); clear st; intro w st; simp only [List.set] at st)
    | (with_reducible refine LetW.rows ?_; (first | refine St.storeRow st 0 rfl ?_ | refine St.storeRow st 1 rfl ?_ | refine St.storeRow st 2 rfl ?_ | refine St.storeRow st 3 rfl ?_ | refine St.storeRow st 4 rfl ?_ | refine St.storeRow st 5 rfl ?_ | refine St.storeRow st 6 rfl ?_ | refine St.storeRow st 7 rfl ?_ | refine St.storeRow st 8 rfl ?_ | refine St.storeRow st 9 rfl ?_ | fail); clear st; intro w st; simp only [List.set, setsL] at st)
    | with_reducible refine LetI.id (by omega) (by omega) ?_
    | exact absurd rfl h
    | exact absurd (by decide) h
    | refine ⟨⟨by decide, by decide⟩, _, _, rowM (st.hold 7 _ rfl) rfl 2 (by decide), ?_⟩
    | refine ⟨⟨by decide, by decide⟩, _, _, rowM (st.hold 5 _ rfl) rfl 0 (by decide), ?_⟩
    | with_reducible refine Br.dec (fun h => ?_) (fun h => ?_)
    | with_reducible refine Br.eqi (fun h => ?_) (fun h => ?_)
    | with_reducible refine Br.nei (fun h => ?_) (fun h => ?_)
    | with_reducible refine Br.eqs' (fun h => ?_) (fun h => ?_)
    | with_reducible refine Br.eqs (fun h => ?_) (fun h => ?_)
    | with_reducible refine Br.not ?_
    | with_reducible refine Br.and_ ?_
    | with_reducible refine Br.sure rfl ?_
    | with_reducible refine Br.nay rfl ?_
    | with_reducible refine Br.eqb (fun h => ?_) (fun h => ?_)
    | with_reducible refine Br.bool (fun h => ?_) (fun h => ?_)
    | fail
  exact ⟨rfl, st.kp⟩
end Go.Proofs.Ytbdhdjbdooccoaa
