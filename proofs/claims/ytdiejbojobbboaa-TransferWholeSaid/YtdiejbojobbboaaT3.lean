/- The document's senders; package transfer's receivers: the contracts. -/
import Derived.Test.YtdiejbojobbboaaT2
import Derived.Test.YtdiejbojobbboaaJ
namespace Go.Proofs.Ytdiejbojobbboaa
open Go.Vc Go.Tr

abbrev refL (s : Snd) : List Value := [.int .i64 s.id, .int .i64 (s.size : Int), .int .i64 s.window, .int .i64 (s.got : Int), .int .i64 (s.sent : Int), .string (mk s.text)]
abbrev refA (b : Nat) (s : Snd) : Atom := .blk b 49 (refL s)
theorem ftotal_tu (b : Nat) (s : Snd) (hs : okN s) : Tu Try.prog 19 #[.pointer (some ⟨b, 0, none⟩)] (refA b s) (refA b s) (.int .i64 (s.total : Int)) := by
  refine St.tu fun w0 st => ?_
  have h1 := hs.size
  have h2 := hs.len
  have hm : (mk s.text).size = s.text.length := rfl
  have hd : s.text.length / s.size ≤ s.text.length := Nat.div_le_self _ _
  have hle := div_lo s.size s.text.length
  have e : s.total = cnt s.size s.text.length := rfl
  unfold cnt at e
  refine ftotal_ok _ _ _ ?_
  unfold ftotal
  repeat' first
    | (with_reducible refine St.alloc st ?_; (try clear st); intro b w st)
    | with_reducible refine sz_and (by (repeat rw [ByteArray.size_append]); omega) ?_
    | (with_reducible apply ex0c; case h => first | exact St.cell st 0 rfl rfl | exact St.cell st 1 rfl rfl | exact St.cell st 2 rfl rfl | exact St.cell st 3 rfl rfl | fail)
    | (with_reducible apply ex1c; case h => first | exact St.cell st 0 rfl rfl | exact St.cell st 1 rfl rfl | exact St.cell st 2 rfl rfl | exact St.cell st 3 rfl rfl | fail)
    | (with_reducible apply ex3c; case h => first | exact St.cell st 0 rfl rfl | exact St.cell st 1 rfl rfl | exact St.cell st 2 rfl rfl | exact St.cell st 3 rfl rfl | fail)
    | (with_reducible apply ex0r; case h => first | exact St.rows st 0 rfl | exact St.rows st 1 rfl | exact St.rows st 2 rfl | exact St.rows st 3 rfl | fail)
    | (with_reducible apply exr2; case h => first | exact St.rows st 0 rfl | exact St.rows st 1 rfl | exact St.rows st 2 rfl | exact St.rows st 3 rfl | fail)
    | (with_reducible apply exr3; case h => first | exact St.rows st 0 rfl | exact St.rows st 1 rfl | exact St.rows st 2 rfl | exact St.rows st 3 rfl | fail)
    | (with_reducible apply exr4; case h => first | exact St.rows st 0 rfl | exact St.rows st 1 rfl | exact St.rows st 2 rfl | exact St.rows st 3 rfl | fail)
    | (with_reducible apply exr5; case h => first | exact St.rows st 0 rfl | exact St.rows st 1 rfl | exact St.rows st 2 rfl | exact St.rows st 3 rfl | fail)
    | (with_reducible apply exr6; case h => first | exact St.rows st 0 rfl | exact St.rows st 1 rfl | exact St.rows st 2 rfl | exact St.rows st 3 rfl | fail)
    | (with_reducible apply exWr; case h => first | exact St.wr st 0 rfl rfl | exact St.wr st 1 rfl rfl | exact St.wr st 2 rfl rfl | exact St.wr st 3 rfl rfl | fail)
    | (with_reducible apply exWrRow; case h => first | exact St.wrRow st 0 rfl rfl rfl | exact St.wrRow st 1 rfl rfl rfl | exact St.wrRow st 2 rfl rfl rfl | exact St.wrRow st 3 rfl rfl rfl | fail)
    | (with_reducible refine LetW.cell ?_; (first | refine St.store st 0 rfl ?_ | refine St.store st 1 rfl ?_ | refine St.store st 2 rfl ?_ | refine St.store st 3 rfl ?_ | fail); (try clear st); intro w st; simp only [List.set] at st)
    | (with_reducible refine LetW.rows ?_; (first | refine St.storeRow st 0 rfl ?_ | refine St.storeRow st 1 rfl ?_ | refine St.storeRow st 2 rfl ?_ | refine St.storeRow st 3 rfl ?_ | fail); (try clear st); intro w st; simp only [List.set, setsL] at st)
    | ((with_reducible apply exr4); case h => first | exact St.rowAt st 0 rfl rfl | exact St.rowAt st 1 rfl rfl | exact St.rowAt st 2 rfl rfl | exact St.rowAt st 3 rfl rfl | fail)
    | ((with_reducible apply exr5); case h => first | exact St.rowAt st 0 rfl rfl | exact St.rowAt st 1 rfl rfl | exact St.rowAt st 2 rfl rfl | exact St.rowAt st 3 rfl rfl | fail)
    | ((with_reducible apply exr6); case h => first | exact St.rowAt st 0 rfl rfl | exact St.rowAt st 1 rfl rfl | exact St.rowAt st 2 rfl rfl | exact St.rowAt st 3 rfl rfl | fail)
    | with_reducible refine LetI.id (by omega) (by omega) ?_
    | fail
  refine ⟨by omega, ?_⟩
  have hq : ((mk s.text).size : Int).tdiv (s.size : Int) = ((s.text.length / s.size : Nat) : Int) := by
    rw [hm, Int.tdiv_eq_ediv_of_nonneg (by omega)]; rfl
  rw [hq]
  generalize s.text.length / s.size = q at *
  have hp : (q : Int) * (s.size : Int) = ((q * s.size : Nat) : Int) := by simp
  repeat' first
    | (with_reducible refine St.alloc st ?_; (try clear st); intro b w st)
    | with_reducible refine sz_and (by (repeat rw [ByteArray.size_append]); omega) ?_
    | (with_reducible apply ex0c; case h => first | exact St.cell st 0 rfl rfl | exact St.cell st 1 rfl rfl | exact St.cell st 2 rfl rfl | exact St.cell st 3 rfl rfl | fail)
    | (with_reducible apply ex1c; case h => first | exact St.cell st 0 rfl rfl | exact St.cell st 1 rfl rfl | exact St.cell st 2 rfl rfl | exact St.cell st 3 rfl rfl | fail)
    | (with_reducible apply ex3c; case h => first | exact St.cell st 0 rfl rfl | exact St.cell st 1 rfl rfl | exact St.cell st 2 rfl rfl | exact St.cell st 3 rfl rfl | fail)
    | (with_reducible apply ex0r; case h => first | exact St.rows st 0 rfl | exact St.rows st 1 rfl | exact St.rows st 2 rfl | exact St.rows st 3 rfl | fail)
    | (with_reducible apply exr2; case h => first | exact St.rows st 0 rfl | exact St.rows st 1 rfl | exact St.rows st 2 rfl | exact St.rows st 3 rfl | fail)
    | (with_reducible apply exr3; case h => first | exact St.rows st 0 rfl | exact St.rows st 1 rfl | exact St.rows st 2 rfl | exact St.rows st 3 rfl | fail)
    | (with_reducible apply exr4; case h => first | exact St.rows st 0 rfl | exact St.rows st 1 rfl | exact St.rows st 2 rfl | exact St.rows st 3 rfl | fail)
    | (with_reducible apply exr5; case h => first | exact St.rows st 0 rfl | exact St.rows st 1 rfl | exact St.rows st 2 rfl | exact St.rows st 3 rfl | fail)
    | (with_reducible apply exr6; case h => first | exact St.rows st 0 rfl | exact St.rows st 1 rfl | exact St.rows st 2 rfl | exact St.rows st 3 rfl | fail)
    | (with_reducible apply exWr; case h => first | exact St.wr st 0 rfl rfl | exact St.wr st 1 rfl rfl | exact St.wr st 2 rfl rfl | exact St.wr st 3 rfl rfl | fail)
    | (with_reducible apply exWrRow; case h => first | exact St.wrRow st 0 rfl rfl rfl | exact St.wrRow st 1 rfl rfl rfl | exact St.wrRow st 2 rfl rfl rfl | exact St.wrRow st 3 rfl rfl rfl | fail)
    | (with_reducible refine LetW.cell ?_; (first | refine St.store st 0 rfl ?_ | refine St.store st 1 rfl ?_ | refine St.store st 2 rfl ?_ | refine St.store st 3 rfl ?_ | fail); (try clear st); intro w st; simp only [List.set] at st)
    | (with_reducible refine LetW.rows ?_; (first | refine St.storeRow st 0 rfl ?_ | refine St.storeRow st 1 rfl ?_ | refine St.storeRow st 2 rfl ?_ | refine St.storeRow st 3 rfl ?_ | fail); (try clear st); intro w st; simp only [List.set, setsL] at st)
    | ((with_reducible apply exr4); case h => first | exact St.rowAt st 0 rfl rfl | exact St.rowAt st 1 rfl rfl | exact St.rowAt st 2 rfl rfl | exact St.rowAt st 3 rfl rfl | fail)
    | ((with_reducible apply exr5); case h => first | exact St.rowAt st 0 rfl rfl | exact St.rowAt st 1 rfl rfl | exact St.rowAt st 2 rfl rfl | exact St.rowAt st 3 rfl rfl | fail)
    | ((with_reducible apply exr6); case h => first | exact St.rowAt st 0 rfl rfl | exact St.rowAt st 1 rfl rfl | exact St.rowAt st 2 rfl rfl | exact St.rowAt st 3 rfl rfl | fail)
    | with_reducible refine LetI.id (by omega) (by omega) ?_
    | with_reducible refine Br.dec (fun h => ?_) (fun h => ?_)
    | with_reducible refine Br.eqi (fun h => ?_) (fun h => ?_)
    | with_reducible refine Br.nei (fun h => ?_) (fun h => ?_)
    | with_reducible refine Br.eqs' (fun h => ?_) (fun h => ?_)
    | with_reducible refine Br.eqs (fun h => ?_) (fun h => ?_)
    | with_reducible refine Br.not ?_
    | with_reducible refine Br.and_ ?_
    | with_reducible refine Br.sure rfl ?_
    | with_reducible refine Br.nay rfl ?_
    | with_reducible refine Br.eqb (fun h => ?_) (fun h => ?_)
    | with_reducible refine Br.bool (fun h => ?_) (fun h => ?_)
    | fail
  all_goals first
    | (refine ⟨?_, st⟩; rw [e, if_pos (by omega)]; rfl)
    | (refine ⟨?_, st⟩; rw [e, if_neg (by omega)])
theorem fopen_ca {w0 : World} {id size win : Int} {l : List UInt8} (hl : l.length ≤ 1000) : Ca Try.prog 14 #[.int .i64 id, .string (mk l), .int .i64 size, .int .i64 win] w0 fun e w' =>
    (¬ argOk id size win ∧ e = .returned (.tuple #[.pointer none, .int .i64 2]) ∧ Kp No w0 w') ∨
    (argOk id size win ∧ ∃ b, e = .returned (.tuple #[.pointer (some ⟨b, 0, none⟩), .int .i64 0]) ∧ St No w0 w' [refA b (newN id size.toNat l win)]) := by
  have st : St No w0 w0 [] := St.start w0
  refine fopen_ok _ _ _ _ _ _ ?_
  unfold fopen
  refine Br.dec (fun h => .inl ⟨fun hh => by have := hh.1; unfold inB at this; omega, rfl, st.kp⟩) (fun h1 => ?_)
  refine Br.dec (fun h => .inl ⟨fun hh => by have := hh.1; unfold inB at this; omega, rfl, st.kp⟩) (fun h2 => ?_)
  refine Br.dec (fun h => .inl ⟨fun hh => by have := hh.2.1; unfold inB at this; omega, rfl, st.kp⟩) (fun h3 => ?_)
  refine Br.dec (fun h => .inl ⟨fun hh => by have := hh.2.1; unfold inB at this; omega, rfl, st.kp⟩) (fun h4 => ?_)
  refine Br.dec (fun h => .inl ⟨fun hh => by have := hh.2.2; unfold inB at this; omega, rfl, st.kp⟩) (fun h5 => ?_)
  refine Br.dec (fun h => .inl ⟨fun hh => by have := hh.2.2; unfold inB at this; omega, rfl, st.kp⟩) (fun h6 => ?_)
  have ho : argOk id size win := by unfold argOk inB; omega
  have hok := newN_ok (l := l) ho hl
  have hfew := hok.few
  refine St.alloc st ?_; clear st; intro b w st
  have e : (newN id size.toNat l win).size = size.toNat := rfl
  replace st : St No w0 w [refA b (newN id size.toNat l win)] := by
    have : refL (newN id size.toNat l win) = [.int .i64 id, .int .i64 size, .int .i64 win, .int .i64 0, .int .i64 0, .string (mk l)] := by
      show [Value.int .i64 id, .int .i64 ((size.toNat : Nat) : Int), _, _, _, _] = _
      rw [show ((size.toNat : Nat) : Int) = size by omega]; rfl
    show St No w0 w [.blk b _ (refL _)]
    rw [this]; exact st
  repeat' first
    | (with_reducible refine St.alloc st ?_; (try clear st); intro b w st)
    | with_reducible refine sz_and (by (repeat rw [ByteArray.size_append]); omega) ?_
    | (refine Tu.go (ftotal_tu _ _ hok) st 0 rfl (fun _ hg => hg) ?_; (try clear st); intro w st; simp only [List.set] at st; refine ⟨_, rfl, ?_⟩)
    | (refine Tu.go (ftotal_tu _ _ hok) st 1 rfl (fun _ hg => hg) ?_; (try clear st); intro w st; simp only [List.set] at st; refine ⟨_, rfl, ?_⟩)
    | (refine Tu.go (ftotal_tu _ _ hok) st 2 rfl (fun _ hg => hg) ?_; (try clear st); intro w st; simp only [List.set] at st; refine ⟨_, rfl, ?_⟩)
    | (refine Tu.go (ftotal_tu _ _ hok) st 3 rfl (fun _ hg => hg) ?_; (try clear st); intro w st; simp only [List.set] at st; refine ⟨_, rfl, ?_⟩)
    | (with_reducible apply ex0c; case h => first | exact St.cell st 0 rfl rfl | exact St.cell st 1 rfl rfl | exact St.cell st 2 rfl rfl | exact St.cell st 3 rfl rfl | fail)
    | (with_reducible apply ex1c; case h => first | exact St.cell st 0 rfl rfl | exact St.cell st 1 rfl rfl | exact St.cell st 2 rfl rfl | exact St.cell st 3 rfl rfl | fail)
    | (with_reducible apply ex3c; case h => first | exact St.cell st 0 rfl rfl | exact St.cell st 1 rfl rfl | exact St.cell st 2 rfl rfl | exact St.cell st 3 rfl rfl | fail)
    | (with_reducible apply ex0r; case h => first | exact St.rows st 0 rfl | exact St.rows st 1 rfl | exact St.rows st 2 rfl | exact St.rows st 3 rfl | fail)
    | (with_reducible apply exr2; case h => first | exact St.rows st 0 rfl | exact St.rows st 1 rfl | exact St.rows st 2 rfl | exact St.rows st 3 rfl | fail)
    | (with_reducible apply exr3; case h => first | exact St.rows st 0 rfl | exact St.rows st 1 rfl | exact St.rows st 2 rfl | exact St.rows st 3 rfl | fail)
    | (with_reducible apply exr4; case h => first | exact St.rows st 0 rfl | exact St.rows st 1 rfl | exact St.rows st 2 rfl | exact St.rows st 3 rfl | fail)
    | (with_reducible apply exr5; case h => first | exact St.rows st 0 rfl | exact St.rows st 1 rfl | exact St.rows st 2 rfl | exact St.rows st 3 rfl | fail)
    | (with_reducible apply exr6; case h => first | exact St.rows st 0 rfl | exact St.rows st 1 rfl | exact St.rows st 2 rfl | exact St.rows st 3 rfl | fail)
    | (with_reducible apply exWr; case h => first | exact St.wr st 0 rfl rfl | exact St.wr st 1 rfl rfl | exact St.wr st 2 rfl rfl | exact St.wr st 3 rfl rfl | fail)
    | (with_reducible apply exWrRow; case h => first | exact St.wrRow st 0 rfl rfl rfl | exact St.wrRow st 1 rfl rfl rfl | exact St.wrRow st 2 rfl rfl rfl | exact St.wrRow st 3 rfl rfl rfl | fail)
    | (with_reducible refine LetW.cell ?_; (first | refine St.store st 0 rfl ?_ | refine St.store st 1 rfl ?_ | refine St.store st 2 rfl ?_ | refine St.store st 3 rfl ?_ | fail); (try clear st); intro w st; simp only [List.set] at st)
    | (with_reducible refine LetW.rows ?_; (first | refine St.storeRow st 0 rfl ?_ | refine St.storeRow st 1 rfl ?_ | refine St.storeRow st 2 rfl ?_ | refine St.storeRow st 3 rfl ?_ | fail); (try clear st); intro w st; simp only [List.set, setsL] at st)
    | ((with_reducible apply exr4); case h => first | exact St.rowAt st 0 rfl rfl | exact St.rowAt st 1 rfl rfl | exact St.rowAt st 2 rfl rfl | exact St.rowAt st 3 rfl rfl | fail)
    | ((with_reducible apply exr5); case h => first | exact St.rowAt st 0 rfl rfl | exact St.rowAt st 1 rfl rfl | exact St.rowAt st 2 rfl rfl | exact St.rowAt st 3 rfl rfl | fail)
    | ((with_reducible apply exr6); case h => first | exact St.rowAt st 0 rfl rfl | exact St.rowAt st 1 rfl rfl | exact St.rowAt st 2 rfl rfl | exact St.rowAt st 3 rfl rfl | fail)
    | with_reducible refine LetI.id (by omega) (by omega) ?_
    | fail
  refine Br.dec (fun h => by omega) (fun _ => ?_)
  exact .inr ⟨ho, b, rfl, st⟩
theorem fnext_tu (b : Nat) (s : Snd) (hs : okN s) : Tu Try.prog 17 #[.pointer (some ⟨b, 0, none⟩)] (refA b s) (refA b (nextN s)) (.tuple #[pcV (outN s), .bool (decide (canN s))]) := by
  refine St.tu fun w0 st => ?_
  have h1 := hs.size
  have h2 := hs.len
  have h3 := hs.win
  have h4 := hs.sent
  have h5 := hs.got
  have hf := hs.few
  have hm : (mk s.text).size = s.text.length := rfl
  have hno : ¬ canN s → nextN s = s ∧ outN s = .none := fun hc => ⟨by unfold nextN; rw [if_neg hc], by unfold outN; rw [if_neg hc]⟩
  refine fnext_ok _ _ _ ?_
  unfold fnext
  refine St.alloc st ?_; clear st; intro br w st
  repeat' first
    | (with_reducible refine St.alloc st ?_; (try clear st); intro b w st)
    | with_reducible refine sz_and (by (repeat rw [ByteArray.size_append]); omega) ?_
    | (refine Tu.go (ftotal_tu _ s hs) st 0 rfl (fun _ hg => hg) ?_; (try clear st); intro w st; simp only [List.set] at st; refine ⟨_, rfl, ?_⟩)
    | (refine Tu.go (ftotal_tu _ s hs) st 1 rfl (fun _ hg => hg) ?_; (try clear st); intro w st; simp only [List.set] at st; refine ⟨_, rfl, ?_⟩)
    | (refine Tu.go (ftotal_tu _ s hs) st 2 rfl (fun _ hg => hg) ?_; (try clear st); intro w st; simp only [List.set] at st; refine ⟨_, rfl, ?_⟩)
    | (refine Tu.go (ftotal_tu _ s hs) st 3 rfl (fun _ hg => hg) ?_; (try clear st); intro w st; simp only [List.set] at st; refine ⟨_, rfl, ?_⟩)
    | (with_reducible apply ex0c; case h => first | exact St.cell st 0 rfl rfl | exact St.cell st 1 rfl rfl | exact St.cell st 2 rfl rfl | exact St.cell st 3 rfl rfl | fail)
    | (with_reducible apply ex1c; case h => first | exact St.cell st 0 rfl rfl | exact St.cell st 1 rfl rfl | exact St.cell st 2 rfl rfl | exact St.cell st 3 rfl rfl | fail)
    | (with_reducible apply ex3c; case h => first | exact St.cell st 0 rfl rfl | exact St.cell st 1 rfl rfl | exact St.cell st 2 rfl rfl | exact St.cell st 3 rfl rfl | fail)
    | (with_reducible apply ex0r; case h => first | exact St.rows st 0 rfl | exact St.rows st 1 rfl | exact St.rows st 2 rfl | exact St.rows st 3 rfl | fail)
    | (with_reducible apply exr2; case h => first | exact St.rows st 0 rfl | exact St.rows st 1 rfl | exact St.rows st 2 rfl | exact St.rows st 3 rfl | fail)
    | (with_reducible apply exr3; case h => first | exact St.rows st 0 rfl | exact St.rows st 1 rfl | exact St.rows st 2 rfl | exact St.rows st 3 rfl | fail)
    | (with_reducible apply exr4; case h => first | exact St.rows st 0 rfl | exact St.rows st 1 rfl | exact St.rows st 2 rfl | exact St.rows st 3 rfl | fail)
    | (with_reducible apply exr5; case h => first | exact St.rows st 0 rfl | exact St.rows st 1 rfl | exact St.rows st 2 rfl | exact St.rows st 3 rfl | fail)
    | (with_reducible apply exr6; case h => first | exact St.rows st 0 rfl | exact St.rows st 1 rfl | exact St.rows st 2 rfl | exact St.rows st 3 rfl | fail)
    | (with_reducible apply exWr; case h => first | exact St.wr st 0 rfl rfl | exact St.wr st 1 rfl rfl | exact St.wr st 2 rfl rfl | exact St.wr st 3 rfl rfl | fail)
    | (with_reducible apply exWrRow; case h => first | exact St.wrRow st 0 rfl rfl rfl | exact St.wrRow st 1 rfl rfl rfl | exact St.wrRow st 2 rfl rfl rfl | exact St.wrRow st 3 rfl rfl rfl | fail)
    | (with_reducible refine LetW.cell ?_; (first | refine St.store st 0 rfl ?_ | refine St.store st 1 rfl ?_ | refine St.store st 2 rfl ?_ | refine St.store st 3 rfl ?_ | fail); (try clear st); intro w st; simp only [List.set] at st)
    | (with_reducible refine LetW.rows ?_; (first | refine St.storeRow st 0 rfl ?_ | refine St.storeRow st 1 rfl ?_ | refine St.storeRow st 2 rfl ?_ | refine St.storeRow st 3 rfl ?_ | fail); (try clear st); intro w st; simp only [List.set, setsL] at st)
    | ((with_reducible apply exr4); case h => first | exact St.rowAt st 0 rfl rfl | exact St.rowAt st 1 rfl rfl | exact St.rowAt st 2 rfl rfl | exact St.rowAt st 3 rfl rfl | fail)
    | ((with_reducible apply exr5); case h => first | exact St.rowAt st 0 rfl rfl | exact St.rowAt st 1 rfl rfl | exact St.rowAt st 2 rfl rfl | exact St.rowAt st 3 rfl rfl | fail)
    | ((with_reducible apply exr6); case h => first | exact St.rowAt st 0 rfl rfl | exact St.rowAt st 1 rfl rfl | exact St.rowAt st 2 rfl rfl | exact St.rowAt st 3 rfl rfl | fail)
    | with_reducible refine LetI.id (by omega) (by omega) ?_
    | fail
  refine Br.eqi (fun h => ?_) (fun h => ?_)
  · have hc : ¬ canN s := by unfold canN; omega
    obtain ⟨e1, e2⟩ := hno hc
    repeat' first
      | (with_reducible refine St.alloc st ?_; (try clear st); intro b w st)
      | with_reducible refine sz_and (by (repeat rw [ByteArray.size_append]); omega) ?_
      | (with_reducible apply ex0c; case h => first | exact St.cell st 0 rfl rfl | exact St.cell st 1 rfl rfl | exact St.cell st 2 rfl rfl | exact St.cell st 3 rfl rfl | fail)
      | (with_reducible apply ex1c; case h => first | exact St.cell st 0 rfl rfl | exact St.cell st 1 rfl rfl | exact St.cell st 2 rfl rfl | exact St.cell st 3 rfl rfl | fail)
      | (with_reducible apply ex3c; case h => first | exact St.cell st 0 rfl rfl | exact St.cell st 1 rfl rfl | exact St.cell st 2 rfl rfl | exact St.cell st 3 rfl rfl | fail)
      | (with_reducible apply ex0r; case h => first | exact St.rows st 0 rfl | exact St.rows st 1 rfl | exact St.rows st 2 rfl | exact St.rows st 3 rfl | fail)
      | (with_reducible apply exr2; case h => first | exact St.rows st 0 rfl | exact St.rows st 1 rfl | exact St.rows st 2 rfl | exact St.rows st 3 rfl | fail)
      | (with_reducible apply exr3; case h => first | exact St.rows st 0 rfl | exact St.rows st 1 rfl | exact St.rows st 2 rfl | exact St.rows st 3 rfl | fail)
      | (with_reducible apply exr4; case h => first | exact St.rows st 0 rfl | exact St.rows st 1 rfl | exact St.rows st 2 rfl | exact St.rows st 3 rfl | fail)
      | (with_reducible apply exr5; case h => first | exact St.rows st 0 rfl | exact St.rows st 1 rfl | exact St.rows st 2 rfl | exact St.rows st 3 rfl | fail)
      | (with_reducible apply exr6; case h => first | exact St.rows st 0 rfl | exact St.rows st 1 rfl | exact St.rows st 2 rfl | exact St.rows st 3 rfl | fail)
      | (with_reducible apply exWr; case h => first | exact St.wr st 0 rfl rfl | exact St.wr st 1 rfl rfl | exact St.wr st 2 rfl rfl | exact St.wr st 3 rfl rfl | fail)
      | (with_reducible apply exWrRow; case h => first | exact St.wrRow st 0 rfl rfl rfl | exact St.wrRow st 1 rfl rfl rfl | exact St.wrRow st 2 rfl rfl rfl | exact St.wrRow st 3 rfl rfl rfl | fail)
      | (with_reducible refine LetW.cell ?_; (first | refine St.store st 0 rfl ?_ | refine St.store st 1 rfl ?_ | refine St.store st 2 rfl ?_ | refine St.store st 3 rfl ?_ | fail); (try clear st); intro w st; simp only [List.set] at st)
      | (with_reducible refine LetW.rows ?_; (first | refine St.storeRow st 0 rfl ?_ | refine St.storeRow st 1 rfl ?_ | refine St.storeRow st 2 rfl ?_ | refine St.storeRow st 3 rfl ?_ | fail); (try clear st); intro w st; simp only [List.set, setsL] at st)
      | ((with_reducible apply exr4); case h => first | exact St.rowAt st 0 rfl rfl | exact St.rowAt st 1 rfl rfl | exact St.rowAt st 2 rfl rfl | exact St.rowAt st 3 rfl rfl | fail)
      | ((with_reducible apply exr5); case h => first | exact St.rowAt st 0 rfl rfl | exact St.rowAt st 1 rfl rfl | exact St.rowAt st 2 rfl rfl | exact St.rowAt st 3 rfl rfl | fail)
      | ((with_reducible apply exr6); case h => first | exact St.rowAt st 0 rfl rfl | exact St.rowAt st 1 rfl rfl | exact St.rowAt st 2 rfl rfl | exact St.rowAt st 3 rfl rfl | fail)
      | with_reducible refine LetI.id (by omega) (by omega) ?_
      | fail
    rw [e1, e2, decide_eq_false hc]
    exact ⟨rfl, st.pick [1] rfl (by decide)⟩
  repeat' first
    | (with_reducible refine St.alloc st ?_; (try clear st); intro b w st)
    | with_reducible refine sz_and (by (repeat rw [ByteArray.size_append]); omega) ?_
    | (with_reducible apply ex0c; case h => first | exact St.cell st 0 rfl rfl | exact St.cell st 1 rfl rfl | exact St.cell st 2 rfl rfl | exact St.cell st 3 rfl rfl | fail)
    | (with_reducible apply ex1c; case h => first | exact St.cell st 0 rfl rfl | exact St.cell st 1 rfl rfl | exact St.cell st 2 rfl rfl | exact St.cell st 3 rfl rfl | fail)
    | (with_reducible apply ex3c; case h => first | exact St.cell st 0 rfl rfl | exact St.cell st 1 rfl rfl | exact St.cell st 2 rfl rfl | exact St.cell st 3 rfl rfl | fail)
    | (with_reducible apply ex0r; case h => first | exact St.rows st 0 rfl | exact St.rows st 1 rfl | exact St.rows st 2 rfl | exact St.rows st 3 rfl | fail)
    | (with_reducible apply exr2; case h => first | exact St.rows st 0 rfl | exact St.rows st 1 rfl | exact St.rows st 2 rfl | exact St.rows st 3 rfl | fail)
    | (with_reducible apply exr3; case h => first | exact St.rows st 0 rfl | exact St.rows st 1 rfl | exact St.rows st 2 rfl | exact St.rows st 3 rfl | fail)
    | (with_reducible apply exr4; case h => first | exact St.rows st 0 rfl | exact St.rows st 1 rfl | exact St.rows st 2 rfl | exact St.rows st 3 rfl | fail)
    | (with_reducible apply exr5; case h => first | exact St.rows st 0 rfl | exact St.rows st 1 rfl | exact St.rows st 2 rfl | exact St.rows st 3 rfl | fail)
    | (with_reducible apply exr6; case h => first | exact St.rows st 0 rfl | exact St.rows st 1 rfl | exact St.rows st 2 rfl | exact St.rows st 3 rfl | fail)
    | (with_reducible apply exWr; case h => first | exact St.wr st 0 rfl rfl | exact St.wr st 1 rfl rfl | exact St.wr st 2 rfl rfl | exact St.wr st 3 rfl rfl | fail)
    | (with_reducible apply exWrRow; case h => first | exact St.wrRow st 0 rfl rfl rfl | exact St.wrRow st 1 rfl rfl rfl | exact St.wrRow st 2 rfl rfl rfl | exact St.wrRow st 3 rfl rfl rfl | fail)
    | (with_reducible refine LetW.cell ?_; (first | refine St.store st 0 rfl ?_ | refine St.store st 1 rfl ?_ | refine St.store st 2 rfl ?_ | refine St.store st 3 rfl ?_ | fail); (try clear st); intro w st; simp only [List.set] at st)
    | (with_reducible refine LetW.rows ?_; (first | refine St.storeRow st 0 rfl ?_ | refine St.storeRow st 1 rfl ?_ | refine St.storeRow st 2 rfl ?_ | refine St.storeRow st 3 rfl ?_ | fail); (try clear st); intro w st; simp only [List.set, setsL] at st)
    | ((with_reducible apply exr4); case h => first | exact St.rowAt st 0 rfl rfl | exact St.rowAt st 1 rfl rfl | exact St.rowAt st 2 rfl rfl | exact St.rowAt st 3 rfl rfl | fail)
    | ((with_reducible apply exr5); case h => first | exact St.rowAt st 0 rfl rfl | exact St.rowAt st 1 rfl rfl | exact St.rowAt st 2 rfl rfl | exact St.rowAt st 3 rfl rfl | fail)
    | ((with_reducible apply exr6); case h => first | exact St.rowAt st 0 rfl rfl | exact St.rowAt st 1 rfl rfl | exact St.rowAt st 2 rfl rfl | exact St.rowAt st 3 rfl rfl | fail)
    | with_reducible refine LetI.id (by omega) (by omega) ?_
    | fail
  refine Br.dec (fun h => ?_) (fun h => ?_)
  · have hc : ¬ canN s := by unfold canN; omega
    obtain ⟨e1, e2⟩ := hno hc
    repeat' first
      | (with_reducible refine St.alloc st ?_; (try clear st); intro b w st)
      | with_reducible refine sz_and (by (repeat rw [ByteArray.size_append]); omega) ?_
      | (with_reducible apply ex0c; case h => first | exact St.cell st 0 rfl rfl | exact St.cell st 1 rfl rfl | exact St.cell st 2 rfl rfl | exact St.cell st 3 rfl rfl | fail)
      | (with_reducible apply ex1c; case h => first | exact St.cell st 0 rfl rfl | exact St.cell st 1 rfl rfl | exact St.cell st 2 rfl rfl | exact St.cell st 3 rfl rfl | fail)
      | (with_reducible apply ex3c; case h => first | exact St.cell st 0 rfl rfl | exact St.cell st 1 rfl rfl | exact St.cell st 2 rfl rfl | exact St.cell st 3 rfl rfl | fail)
      | (with_reducible apply ex0r; case h => first | exact St.rows st 0 rfl | exact St.rows st 1 rfl | exact St.rows st 2 rfl | exact St.rows st 3 rfl | fail)
      | (with_reducible apply exr2; case h => first | exact St.rows st 0 rfl | exact St.rows st 1 rfl | exact St.rows st 2 rfl | exact St.rows st 3 rfl | fail)
      | (with_reducible apply exr3; case h => first | exact St.rows st 0 rfl | exact St.rows st 1 rfl | exact St.rows st 2 rfl | exact St.rows st 3 rfl | fail)
      | (with_reducible apply exr4; case h => first | exact St.rows st 0 rfl | exact St.rows st 1 rfl | exact St.rows st 2 rfl | exact St.rows st 3 rfl | fail)
      | (with_reducible apply exr5; case h => first | exact St.rows st 0 rfl | exact St.rows st 1 rfl | exact St.rows st 2 rfl | exact St.rows st 3 rfl | fail)
      | (with_reducible apply exr6; case h => first | exact St.rows st 0 rfl | exact St.rows st 1 rfl | exact St.rows st 2 rfl | exact St.rows st 3 rfl | fail)
      | (with_reducible apply exWr; case h => first | exact St.wr st 0 rfl rfl | exact St.wr st 1 rfl rfl | exact St.wr st 2 rfl rfl | exact St.wr st 3 rfl rfl | fail)
      | (with_reducible apply exWrRow; case h => first | exact St.wrRow st 0 rfl rfl rfl | exact St.wrRow st 1 rfl rfl rfl | exact St.wrRow st 2 rfl rfl rfl | exact St.wrRow st 3 rfl rfl rfl | fail)
      | (with_reducible refine LetW.cell ?_; (first | refine St.store st 0 rfl ?_ | refine St.store st 1 rfl ?_ | refine St.store st 2 rfl ?_ | refine St.store st 3 rfl ?_ | fail); (try clear st); intro w st; simp only [List.set] at st)
      | (with_reducible refine LetW.rows ?_; (first | refine St.storeRow st 0 rfl ?_ | refine St.storeRow st 1 rfl ?_ | refine St.storeRow st 2 rfl ?_ | refine St.storeRow st 3 rfl ?_ | fail); (try clear st); intro w st; simp only [List.set, setsL] at st)
      | ((with_reducible apply exr4); case h => first | exact St.rowAt st 0 rfl rfl | exact St.rowAt st 1 rfl rfl | exact St.rowAt st 2 rfl rfl | exact St.rowAt st 3 rfl rfl | fail)
      | ((with_reducible apply exr5); case h => first | exact St.rowAt st 0 rfl rfl | exact St.rowAt st 1 rfl rfl | exact St.rowAt st 2 rfl rfl | exact St.rowAt st 3 rfl rfl | fail)
      | ((with_reducible apply exr6); case h => first | exact St.rowAt st 0 rfl rfl | exact St.rowAt st 1 rfl rfl | exact St.rowAt st 2 rfl rfl | exact St.rowAt st 3 rfl rfl | fail)
      | with_reducible refine LetI.id (by omega) (by omega) ?_
      | fail
    rw [e1, e2, decide_eq_false hc]
    exact ⟨rfl, st.pick [1] rfl (by decide)⟩
  have hc : canN s := by unfold canN; omega
  have hlt : s.sent < s.total := by omega
  have hx := (lt_cnt (size := s.size) (len := s.text.length) (k := s.sent) h1.1).1 hlt
  have hp : (s.sent : Int) * (s.size : Int) = ((s.sent * s.size : Nat) : Int) := by simp
  have hbig : s.sent * s.size ≤ s.text.length := by
    rcases hx with h | h
    · omega
    · rw [h]; simp
  have hnx : okN ⟨s.id, s.size, s.text, s.window, s.got, s.sent + 1⟩ := by have := nextN_ok hs; unfold nextN at this; rwa [if_pos hc] at this
  repeat' first
    | (with_reducible refine St.alloc st ?_; (try clear st); intro b w st)
    | with_reducible refine sz_and (by (repeat rw [ByteArray.size_append]); omega) ?_
    | (with_reducible apply ex0c; case h => first | exact St.cell st 0 rfl rfl | exact St.cell st 1 rfl rfl | exact St.cell st 2 rfl rfl | exact St.cell st 3 rfl rfl | fail)
    | (with_reducible apply ex1c; case h => first | exact St.cell st 0 rfl rfl | exact St.cell st 1 rfl rfl | exact St.cell st 2 rfl rfl | exact St.cell st 3 rfl rfl | fail)
    | (with_reducible apply ex3c; case h => first | exact St.cell st 0 rfl rfl | exact St.cell st 1 rfl rfl | exact St.cell st 2 rfl rfl | exact St.cell st 3 rfl rfl | fail)
    | (with_reducible apply ex0r; case h => first | exact St.rows st 0 rfl | exact St.rows st 1 rfl | exact St.rows st 2 rfl | exact St.rows st 3 rfl | fail)
    | (with_reducible apply exr2; case h => first | exact St.rows st 0 rfl | exact St.rows st 1 rfl | exact St.rows st 2 rfl | exact St.rows st 3 rfl | fail)
    | (with_reducible apply exr3; case h => first | exact St.rows st 0 rfl | exact St.rows st 1 rfl | exact St.rows st 2 rfl | exact St.rows st 3 rfl | fail)
    | (with_reducible apply exr4; case h => first | exact St.rows st 0 rfl | exact St.rows st 1 rfl | exact St.rows st 2 rfl | exact St.rows st 3 rfl | fail)
    | (with_reducible apply exr5; case h => first | exact St.rows st 0 rfl | exact St.rows st 1 rfl | exact St.rows st 2 rfl | exact St.rows st 3 rfl | fail)
    | (with_reducible apply exr6; case h => first | exact St.rows st 0 rfl | exact St.rows st 1 rfl | exact St.rows st 2 rfl | exact St.rows st 3 rfl | fail)
    | (with_reducible apply exWr; case h => first | exact St.wr st 0 rfl rfl | exact St.wr st 1 rfl rfl | exact St.wr st 2 rfl rfl | exact St.wr st 3 rfl rfl | fail)
    | (with_reducible apply exWrRow; case h => first | exact St.wrRow st 0 rfl rfl rfl | exact St.wrRow st 1 rfl rfl rfl | exact St.wrRow st 2 rfl rfl rfl | exact St.wrRow st 3 rfl rfl rfl | fail)
    | (with_reducible refine LetW.cell ?_; (first | refine St.store st 0 rfl ?_ | refine St.store st 1 rfl ?_ | refine St.store st 2 rfl ?_ | refine St.store st 3 rfl ?_ | fail); (try clear st); intro w st; simp only [List.set] at st)
    | (with_reducible refine LetW.rows ?_; (first | refine St.storeRow st 0 rfl ?_ | refine St.storeRow st 1 rfl ?_ | refine St.storeRow st 2 rfl ?_ | refine St.storeRow st 3 rfl ?_ | fail); (try clear st); intro w st; simp only [List.set, setsL] at st)
    | ((with_reducible apply exr4); case h => first | exact St.rowAt st 0 rfl rfl | exact St.rowAt st 1 rfl rfl | exact St.rowAt st 2 rfl rfl | exact St.rowAt st 3 rfl rfl | fail)
    | ((with_reducible apply exr5); case h => first | exact St.rowAt st 0 rfl rfl | exact St.rowAt st 1 rfl rfl | exact St.rowAt st 2 rfl rfl | exact St.rowAt st 3 rfl rfl | fail)
    | ((with_reducible apply exr6); case h => first | exact St.rowAt st 0 rfl rfl | exact St.rowAt st 1 rfl rfl | exact St.rowAt st 2 rfl rfl | exact St.rowAt st 3 rfl rfl | fail)
    | with_reducible refine LetI.id (by omega) (by omega) ?_
    | fail
  have hcut := pieceOf_cut s.size s.text s.sent
  have hto : min (((s.sent * s.size : Nat) : Int) + (s.size : Int)) ((mk s.text).size : Int) = ((min (s.sent * s.size + s.size) s.text.length : Nat) : Int) := by rw [hm]; omega
  refine LetI.of ?_
  rw [hp, hto]
  have e3 : (s.sent : Int) + 1 = ((s.sent + 1 : Nat) : Int) := by omega
  rw [e3] at st ⊢
  repeat' first
    | (with_reducible refine St.alloc st ?_; (try clear st); intro b w st)
    | with_reducible refine sz_and (by (repeat rw [ByteArray.size_append]); omega) ?_
    | (with_reducible apply ex0c; case h => first | exact St.cell st 0 rfl rfl | exact St.cell st 1 rfl rfl | exact St.cell st 2 rfl rfl | exact St.cell st 3 rfl rfl | fail)
    | (with_reducible apply ex1c; case h => first | exact St.cell st 0 rfl rfl | exact St.cell st 1 rfl rfl | exact St.cell st 2 rfl rfl | exact St.cell st 3 rfl rfl | fail)
    | (with_reducible apply ex3c; case h => first | exact St.cell st 0 rfl rfl | exact St.cell st 1 rfl rfl | exact St.cell st 2 rfl rfl | exact St.cell st 3 rfl rfl | fail)
    | (with_reducible apply ex0r; case h => first | exact St.rows st 0 rfl | exact St.rows st 1 rfl | exact St.rows st 2 rfl | exact St.rows st 3 rfl | fail)
    | (with_reducible apply exr2; case h => first | exact St.rows st 0 rfl | exact St.rows st 1 rfl | exact St.rows st 2 rfl | exact St.rows st 3 rfl | fail)
    | (with_reducible apply exr3; case h => first | exact St.rows st 0 rfl | exact St.rows st 1 rfl | exact St.rows st 2 rfl | exact St.rows st 3 rfl | fail)
    | (with_reducible apply exr4; case h => first | exact St.rows st 0 rfl | exact St.rows st 1 rfl | exact St.rows st 2 rfl | exact St.rows st 3 rfl | fail)
    | (with_reducible apply exr5; case h => first | exact St.rows st 0 rfl | exact St.rows st 1 rfl | exact St.rows st 2 rfl | exact St.rows st 3 rfl | fail)
    | (with_reducible apply exr6; case h => first | exact St.rows st 0 rfl | exact St.rows st 1 rfl | exact St.rows st 2 rfl | exact St.rows st 3 rfl | fail)
    | (with_reducible apply exWr; case h => first | exact St.wr st 0 rfl rfl | exact St.wr st 1 rfl rfl | exact St.wr st 2 rfl rfl | exact St.wr st 3 rfl rfl | fail)
    | (with_reducible apply exWrRow; case h => first | exact St.wrRow st 0 rfl rfl rfl | exact St.wrRow st 1 rfl rfl rfl | exact St.wrRow st 2 rfl rfl rfl | exact St.wrRow st 3 rfl rfl rfl | fail)
    | (with_reducible refine LetW.cell ?_; (first | refine St.store st 0 rfl ?_ | refine St.store st 1 rfl ?_ | refine St.store st 2 rfl ?_ | refine St.store st 3 rfl ?_ | fail); (try clear st); intro w st; simp only [List.set] at st)
    | (with_reducible refine LetW.rows ?_; (first | refine St.storeRow st 0 rfl ?_ | refine St.storeRow st 1 rfl ?_ | refine St.storeRow st 2 rfl ?_ | refine St.storeRow st 3 rfl ?_ | fail); (try clear st); intro w st; simp only [List.set, setsL] at st)
    | ((with_reducible apply exr4); case h => first | exact St.rowAt st 0 rfl rfl | exact St.rowAt st 1 rfl rfl | exact St.rowAt st 2 rfl rfl | exact St.rowAt st 3 rfl rfl | fail)
    | ((with_reducible apply exr5); case h => first | exact St.rowAt st 0 rfl rfl | exact St.rowAt st 1 rfl rfl | exact St.rowAt st 2 rfl rfl | exact St.rowAt st 3 rfl rfl | fail)
    | ((with_reducible apply exr6); case h => first | exact St.rowAt st 0 rfl rfl | exact St.rowAt st 1 rfl rfl | exact St.rowAt st 2 rfl rfl | exact St.rowAt st 3 rfl rfl | fail)
    | with_reducible refine LetI.id (by omega) (by omega) ?_
    | fail
  refine ⟨⟨by omega, by omega, by omega⟩, ?_⟩
  refine Tu.go (ftotal_tu _ ⟨s.id, s.size, s.text, s.window, s.got, s.sent + 1⟩ hnx) st 1 rfl (fun _ hg => hg) ?_
  clear st
  intro w st
  simp only [List.set] at st
  refine ⟨_, rfl, ?_⟩
  repeat' first
    | (with_reducible refine St.alloc st ?_; (try clear st); intro b w st)
    | with_reducible refine sz_and (by (repeat rw [ByteArray.size_append]); omega) ?_
    | (with_reducible apply ex0c; case h => first | exact St.cell st 0 rfl rfl | exact St.cell st 1 rfl rfl | exact St.cell st 2 rfl rfl | exact St.cell st 3 rfl rfl | fail)
    | (with_reducible apply ex1c; case h => first | exact St.cell st 0 rfl rfl | exact St.cell st 1 rfl rfl | exact St.cell st 2 rfl rfl | exact St.cell st 3 rfl rfl | fail)
    | (with_reducible apply ex3c; case h => first | exact St.cell st 0 rfl rfl | exact St.cell st 1 rfl rfl | exact St.cell st 2 rfl rfl | exact St.cell st 3 rfl rfl | fail)
    | (with_reducible apply ex0r; case h => first | exact St.rows st 0 rfl | exact St.rows st 1 rfl | exact St.rows st 2 rfl | exact St.rows st 3 rfl | fail)
    | (with_reducible apply exr2; case h => first | exact St.rows st 0 rfl | exact St.rows st 1 rfl | exact St.rows st 2 rfl | exact St.rows st 3 rfl | fail)
    | (with_reducible apply exr3; case h => first | exact St.rows st 0 rfl | exact St.rows st 1 rfl | exact St.rows st 2 rfl | exact St.rows st 3 rfl | fail)
    | (with_reducible apply exr4; case h => first | exact St.rows st 0 rfl | exact St.rows st 1 rfl | exact St.rows st 2 rfl | exact St.rows st 3 rfl | fail)
    | (with_reducible apply exr5; case h => first | exact St.rows st 0 rfl | exact St.rows st 1 rfl | exact St.rows st 2 rfl | exact St.rows st 3 rfl | fail)
    | (with_reducible apply exr6; case h => first | exact St.rows st 0 rfl | exact St.rows st 1 rfl | exact St.rows st 2 rfl | exact St.rows st 3 rfl | fail)
    | (with_reducible apply exWr; case h => first | exact St.wr st 0 rfl rfl | exact St.wr st 1 rfl rfl | exact St.wr st 2 rfl rfl | exact St.wr st 3 rfl rfl | fail)
    | (with_reducible apply exWrRow; case h => first | exact St.wrRow st 0 rfl rfl rfl | exact St.wrRow st 1 rfl rfl rfl | exact St.wrRow st 2 rfl rfl rfl | exact St.wrRow st 3 rfl rfl rfl | fail)
    | (with_reducible refine LetW.cell ?_; (first | refine St.store st 0 rfl ?_ | refine St.store st 1 rfl ?_ | refine St.store st 2 rfl ?_ | refine St.store st 3 rfl ?_ | fail); (try clear st); intro w st; simp only [List.set] at st)
    | (with_reducible refine LetW.rows ?_; (first | refine St.storeRow st 0 rfl ?_ | refine St.storeRow st 1 rfl ?_ | refine St.storeRow st 2 rfl ?_ | refine St.storeRow st 3 rfl ?_ | fail); (try clear st); intro w st; simp only [List.set, setsL] at st)
    | ((with_reducible apply exr4); case h => first | exact St.rowAt st 0 rfl rfl | exact St.rowAt st 1 rfl rfl | exact St.rowAt st 2 rfl rfl | exact St.rowAt st 3 rfl rfl | fail)
    | ((with_reducible apply exr5); case h => first | exact St.rowAt st 0 rfl rfl | exact St.rowAt st 1 rfl rfl | exact St.rowAt st 2 rfl rfl | exact St.rowAt st 3 rfl rfl | fail)
    | ((with_reducible apply exr6); case h => first | exact St.rowAt st 0 rfl rfl | exact St.rowAt st 1 rfl rfl | exact St.rowAt st 2 rfl rfl | exact St.rowAt st 3 rfl rfl | fail)
    | with_reducible refine LetI.id (by omega) (by omega) ?_
    | fail
  rw [show nextN s = ⟨s.id, s.size, s.text, s.window, s.got, s.sent + 1⟩ by unfold nextN; rw [if_pos hc], show outN s = pcN s s.sent by unfold outN; rw [if_pos hc], decide_eq_true hc]
  refine ⟨?_, st.pick [1] rfl (by decide)⟩
  simp only [Int.toNat_natCast, mk_extract, ← hcut]
  rw [show (((s.sent + 1 : Nat) : Int) - 1) = s.sent by omega]
  rfl
theorem fack_tu (b : Nat) (s : Snd) (hs : okN s) (id have_ : Int) : Tu Try.prog 15 #[.pointer (some ⟨b, 0, none⟩), .int .i64 id, .int .i64 have_] (refA b s) (refA b (ackN s id have_).1) (.int .i64 (ackN s id have_).2) := by
  refine St.tu fun w0 st => ?_
  refine fack_ok _ _ _ _ _ ?_
  unfold fack
  repeat' first
    | (with_reducible refine St.alloc st ?_; (try clear st); intro b w st)
    | with_reducible refine sz_and (by (repeat rw [ByteArray.size_append]); omega) ?_
    | (with_reducible apply ex0c; case h => first | exact St.cell st 0 rfl rfl | exact St.cell st 1 rfl rfl | exact St.cell st 2 rfl rfl | exact St.cell st 3 rfl rfl | fail)
    | (with_reducible apply ex1c; case h => first | exact St.cell st 0 rfl rfl | exact St.cell st 1 rfl rfl | exact St.cell st 2 rfl rfl | exact St.cell st 3 rfl rfl | fail)
    | (with_reducible apply ex3c; case h => first | exact St.cell st 0 rfl rfl | exact St.cell st 1 rfl rfl | exact St.cell st 2 rfl rfl | exact St.cell st 3 rfl rfl | fail)
    | (with_reducible apply ex0r; case h => first | exact St.rows st 0 rfl | exact St.rows st 1 rfl | exact St.rows st 2 rfl | exact St.rows st 3 rfl | fail)
    | (with_reducible apply exr2; case h => first | exact St.rows st 0 rfl | exact St.rows st 1 rfl | exact St.rows st 2 rfl | exact St.rows st 3 rfl | fail)
    | (with_reducible apply exr3; case h => first | exact St.rows st 0 rfl | exact St.rows st 1 rfl | exact St.rows st 2 rfl | exact St.rows st 3 rfl | fail)
    | (with_reducible apply exr4; case h => first | exact St.rows st 0 rfl | exact St.rows st 1 rfl | exact St.rows st 2 rfl | exact St.rows st 3 rfl | fail)
    | (with_reducible apply exr5; case h => first | exact St.rows st 0 rfl | exact St.rows st 1 rfl | exact St.rows st 2 rfl | exact St.rows st 3 rfl | fail)
    | (with_reducible apply exr6; case h => first | exact St.rows st 0 rfl | exact St.rows st 1 rfl | exact St.rows st 2 rfl | exact St.rows st 3 rfl | fail)
    | (with_reducible apply exWr; case h => first | exact St.wr st 0 rfl rfl | exact St.wr st 1 rfl rfl | exact St.wr st 2 rfl rfl | exact St.wr st 3 rfl rfl | fail)
    | (with_reducible apply exWrRow; case h => first | exact St.wrRow st 0 rfl rfl rfl | exact St.wrRow st 1 rfl rfl rfl | exact St.wrRow st 2 rfl rfl rfl | exact St.wrRow st 3 rfl rfl rfl | fail)
    | (with_reducible refine LetW.cell ?_; (first | refine St.store st 0 rfl ?_ | refine St.store st 1 rfl ?_ | refine St.store st 2 rfl ?_ | refine St.store st 3 rfl ?_ | fail); (try clear st); intro w st; simp only [List.set] at st)
    | (with_reducible refine LetW.rows ?_; (first | refine St.storeRow st 0 rfl ?_ | refine St.storeRow st 1 rfl ?_ | refine St.storeRow st 2 rfl ?_ | refine St.storeRow st 3 rfl ?_ | fail); (try clear st); intro w st; simp only [List.set, setsL] at st)
    | ((with_reducible apply exr4); case h => first | exact St.rowAt st 0 rfl rfl | exact St.rowAt st 1 rfl rfl | exact St.rowAt st 2 rfl rfl | exact St.rowAt st 3 rfl rfl | fail)
    | ((with_reducible apply exr5); case h => first | exact St.rowAt st 0 rfl rfl | exact St.rowAt st 1 rfl rfl | exact St.rowAt st 2 rfl rfl | exact St.rowAt st 3 rfl rfl | fail)
    | ((with_reducible apply exr6); case h => first | exact St.rowAt st 0 rfl rfl | exact St.rowAt st 1 rfl rfl | exact St.rowAt st 2 rfl rfl | exact St.rowAt st 3 rfl rfl | fail)
    | with_reducible refine LetI.id (by omega) (by omega) ?_
    | fail
  refine Br.nei (fun h => ?_) (fun h => ?_)
  · rw [show ackN s id have_ = (s, 71) by unfold ackN; rw [if_pos h]]
    exact ⟨rfl, st⟩
  refine Br.dec (fun h1 => ?_) (fun h1 => ?_)
  · rw [show ackN s id have_ = (s, 2) by unfold ackN; rw [if_neg (by simp [h]), if_pos (by omega)]]
    exact ⟨rfl, st⟩
  repeat' first
    | (with_reducible refine St.alloc st ?_; (try clear st); intro b w st)
    | with_reducible refine sz_and (by (repeat rw [ByteArray.size_append]); omega) ?_
    | (refine Tu.go (ftotal_tu _ s hs) st 0 rfl (fun _ hg => hg) ?_; (try clear st); intro w st; simp only [List.set] at st; refine ⟨_, rfl, ?_⟩)
    | (refine Tu.go (ftotal_tu _ s hs) st 1 rfl (fun _ hg => hg) ?_; (try clear st); intro w st; simp only [List.set] at st; refine ⟨_, rfl, ?_⟩)
    | (refine Tu.go (ftotal_tu _ s hs) st 2 rfl (fun _ hg => hg) ?_; (try clear st); intro w st; simp only [List.set] at st; refine ⟨_, rfl, ?_⟩)
    | (refine Tu.go (ftotal_tu _ s hs) st 3 rfl (fun _ hg => hg) ?_; (try clear st); intro w st; simp only [List.set] at st; refine ⟨_, rfl, ?_⟩)
    | (with_reducible apply ex0c; case h => first | exact St.cell st 0 rfl rfl | exact St.cell st 1 rfl rfl | exact St.cell st 2 rfl rfl | exact St.cell st 3 rfl rfl | fail)
    | (with_reducible apply ex1c; case h => first | exact St.cell st 0 rfl rfl | exact St.cell st 1 rfl rfl | exact St.cell st 2 rfl rfl | exact St.cell st 3 rfl rfl | fail)
    | (with_reducible apply ex3c; case h => first | exact St.cell st 0 rfl rfl | exact St.cell st 1 rfl rfl | exact St.cell st 2 rfl rfl | exact St.cell st 3 rfl rfl | fail)
    | (with_reducible apply ex0r; case h => first | exact St.rows st 0 rfl | exact St.rows st 1 rfl | exact St.rows st 2 rfl | exact St.rows st 3 rfl | fail)
    | (with_reducible apply exr2; case h => first | exact St.rows st 0 rfl | exact St.rows st 1 rfl | exact St.rows st 2 rfl | exact St.rows st 3 rfl | fail)
    | (with_reducible apply exr3; case h => first | exact St.rows st 0 rfl | exact St.rows st 1 rfl | exact St.rows st 2 rfl | exact St.rows st 3 rfl | fail)
    | (with_reducible apply exr4; case h => first | exact St.rows st 0 rfl | exact St.rows st 1 rfl | exact St.rows st 2 rfl | exact St.rows st 3 rfl | fail)
    | (with_reducible apply exr5; case h => first | exact St.rows st 0 rfl | exact St.rows st 1 rfl | exact St.rows st 2 rfl | exact St.rows st 3 rfl | fail)
    | (with_reducible apply exr6; case h => first | exact St.rows st 0 rfl | exact St.rows st 1 rfl | exact St.rows st 2 rfl | exact St.rows st 3 rfl | fail)
    | (with_reducible apply exWr; case h => first | exact St.wr st 0 rfl rfl | exact St.wr st 1 rfl rfl | exact St.wr st 2 rfl rfl | exact St.wr st 3 rfl rfl | fail)
    | (with_reducible apply exWrRow; case h => first | exact St.wrRow st 0 rfl rfl rfl | exact St.wrRow st 1 rfl rfl rfl | exact St.wrRow st 2 rfl rfl rfl | exact St.wrRow st 3 rfl rfl rfl | fail)
    | (with_reducible refine LetW.cell ?_; (first | refine St.store st 0 rfl ?_ | refine St.store st 1 rfl ?_ | refine St.store st 2 rfl ?_ | refine St.store st 3 rfl ?_ | fail); (try clear st); intro w st; simp only [List.set] at st)
    | (with_reducible refine LetW.rows ?_; (first | refine St.storeRow st 0 rfl ?_ | refine St.storeRow st 1 rfl ?_ | refine St.storeRow st 2 rfl ?_ | refine St.storeRow st 3 rfl ?_ | fail); (try clear st); intro w st; simp only [List.set, setsL] at st)
    | ((with_reducible apply exr4); case h => first | exact St.rowAt st 0 rfl rfl | exact St.rowAt st 1 rfl rfl | exact St.rowAt st 2 rfl rfl | exact St.rowAt st 3 rfl rfl | fail)
    | ((with_reducible apply exr5); case h => first | exact St.rowAt st 0 rfl rfl | exact St.rowAt st 1 rfl rfl | exact St.rowAt st 2 rfl rfl | exact St.rowAt st 3 rfl rfl | fail)
    | ((with_reducible apply exr6); case h => first | exact St.rowAt st 0 rfl rfl | exact St.rowAt st 1 rfl rfl | exact St.rowAt st 2 rfl rfl | exact St.rowAt st 3 rfl rfl | fail)
    | with_reducible refine LetI.id (by omega) (by omega) ?_
    | fail
  refine Br.dec (fun h2 => ?_) (fun h2 => ?_)
  · rw [show ackN s id have_ = (s, 2) by unfold ackN; rw [if_neg (by simp [h]), if_pos (by omega)]]
    exact ⟨rfl, st⟩
  have ho := hs.ahead
  rw [show ackN s id have_ = (⟨s.id, s.size, s.text, s.window, max s.got have_.toNat, max s.sent (max s.got have_.toNat)⟩, 0) by unfold ackN; rw [if_neg (by simp [h]), if_neg (by omega)]]
  have key : ∀ a b' : Int, a = ((max s.got have_.toNat : Nat) : Int) → b' = ((max s.sent (max s.got have_.toNat) : Nat) : Int) → ∀ w, St (Atom.foot (refA b s)) w0 w [.blk b 49 [.int .i64 s.id, .int .i64 (s.size : Int), .int .i64 s.window, .int .i64 a, .int .i64 b', .string (mk s.text)]] → St (Atom.foot (refA b s)) w0 w [refA b ⟨s.id, s.size, s.text, s.window, max s.got have_.toNat, max s.sent (max s.got have_.toNat)⟩] := by
    rintro _ _ rfl rfl w st; exact st
  repeat' first
    | (with_reducible refine St.alloc st ?_; (try clear st); intro b w st)
    | with_reducible refine sz_and (by (repeat rw [ByteArray.size_append]); omega) ?_
    | (with_reducible apply ex0c; case h => first | exact St.cell st 0 rfl rfl | exact St.cell st 1 rfl rfl | exact St.cell st 2 rfl rfl | exact St.cell st 3 rfl rfl | fail)
    | (with_reducible apply ex1c; case h => first | exact St.cell st 0 rfl rfl | exact St.cell st 1 rfl rfl | exact St.cell st 2 rfl rfl | exact St.cell st 3 rfl rfl | fail)
    | (with_reducible apply ex3c; case h => first | exact St.cell st 0 rfl rfl | exact St.cell st 1 rfl rfl | exact St.cell st 2 rfl rfl | exact St.cell st 3 rfl rfl | fail)
    | (with_reducible apply ex0r; case h => first | exact St.rows st 0 rfl | exact St.rows st 1 rfl | exact St.rows st 2 rfl | exact St.rows st 3 rfl | fail)
    | (with_reducible apply exr2; case h => first | exact St.rows st 0 rfl | exact St.rows st 1 rfl | exact St.rows st 2 rfl | exact St.rows st 3 rfl | fail)
    | (with_reducible apply exr3; case h => first | exact St.rows st 0 rfl | exact St.rows st 1 rfl | exact St.rows st 2 rfl | exact St.rows st 3 rfl | fail)
    | (with_reducible apply exr4; case h => first | exact St.rows st 0 rfl | exact St.rows st 1 rfl | exact St.rows st 2 rfl | exact St.rows st 3 rfl | fail)
    | (with_reducible apply exr5; case h => first | exact St.rows st 0 rfl | exact St.rows st 1 rfl | exact St.rows st 2 rfl | exact St.rows st 3 rfl | fail)
    | (with_reducible apply exr6; case h => first | exact St.rows st 0 rfl | exact St.rows st 1 rfl | exact St.rows st 2 rfl | exact St.rows st 3 rfl | fail)
    | (with_reducible apply exWr; case h => first | exact St.wr st 0 rfl rfl | exact St.wr st 1 rfl rfl | exact St.wr st 2 rfl rfl | exact St.wr st 3 rfl rfl | fail)
    | (with_reducible apply exWrRow; case h => first | exact St.wrRow st 0 rfl rfl rfl | exact St.wrRow st 1 rfl rfl rfl | exact St.wrRow st 2 rfl rfl rfl | exact St.wrRow st 3 rfl rfl rfl | fail)
    | (with_reducible refine LetW.cell ?_; (first | refine St.store st 0 rfl ?_ | refine St.store st 1 rfl ?_ | refine St.store st 2 rfl ?_ | refine St.store st 3 rfl ?_ | fail); (try clear st); intro w st; simp only [List.set] at st)
    | (with_reducible refine LetW.rows ?_; (first | refine St.storeRow st 0 rfl ?_ | refine St.storeRow st 1 rfl ?_ | refine St.storeRow st 2 rfl ?_ | refine St.storeRow st 3 rfl ?_ | fail); (try clear st); intro w st; simp only [List.set, setsL] at st)
    | ((with_reducible apply exr4); case h => first | exact St.rowAt st 0 rfl rfl | exact St.rowAt st 1 rfl rfl | exact St.rowAt st 2 rfl rfl | exact St.rowAt st 3 rfl rfl | fail)
    | ((with_reducible apply exr5); case h => first | exact St.rowAt st 0 rfl rfl | exact St.rowAt st 1 rfl rfl | exact St.rowAt st 2 rfl rfl | exact St.rowAt st 3 rfl rfl | fail)
    | ((with_reducible apply exr6); case h => first | exact St.rowAt st 0 rfl rfl | exact St.rowAt st 1 rfl rfl | exact St.rowAt st 2 rfl rfl | exact St.rowAt st 3 rfl rfl | fail)
    | with_reducible refine LetI.id (by omega) (by omega) ?_
    | with_reducible refine Br.dec (fun h => ?_) (fun h => ?_)
    | with_reducible refine Br.eqi (fun h => ?_) (fun h => ?_)
    | with_reducible refine Br.nei (fun h => ?_) (fun h => ?_)
    | with_reducible refine Br.eqs' (fun h => ?_) (fun h => ?_)
    | with_reducible refine Br.eqs (fun h => ?_) (fun h => ?_)
    | with_reducible refine Br.not ?_
    | with_reducible refine Br.and_ ?_
    | with_reducible refine Br.sure rfl ?_
    | with_reducible refine Br.nay rfl ?_
    | with_reducible refine Br.eqb (fun h => ?_) (fun h => ?_)
    | with_reducible refine Br.bool (fun h => ?_) (fun h => ?_)
    | fail
  all_goals exact ⟨rfl, key _ _ (by omega) (by omega) _ st⟩
end Go.Proofs.Ytdiejbojobbboaa
