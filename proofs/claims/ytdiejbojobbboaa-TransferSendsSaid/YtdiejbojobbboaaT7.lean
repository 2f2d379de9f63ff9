/- The law TransferEnds: what it tells is true for every input. -/
import Derived.Test.YtdiejbojobbboaaT5
namespace Go.Proofs.Ytdiejbojobbboaa
open Go.Vc Go.Tr

/-- sender and receiver behind so many pieces, if nothing is lost -/
def stS (s : Snd) (m : Nat) : Snd := ⟨s.id, s.size, s.text, s.window, min m s.total, min m s.total⟩
def stR (r : Rcv) (s : Snd) (m : Nat) : Rcv := if m = 0 then r else ⟨s.id, s.total, firstOf s.size s.text (min m s.total)⟩
theorem stS_ok {s : Snd} (h : okN s) (m : Nat) : okN (stS s m) := by
  have e : (stS s m).total = s.total := rfl
  exact ⟨h.id, h.size, h.win, by rw [e]; exact Nat.min_le_right _ _, by rw [e]; exact Nat.min_le_right _ _, Nat.le_refl _, h.len⟩
theorem stS_zero {s : Snd} (h1 : s.got = 0) (h2 : s.sent = 0) : stS s 0 = s := by
  unfold stS
  rw [Nat.zero_min]
  obtain ⟨a, b, c, d, e, f⟩ := s
  simp only at h1 h2
  subst h1 h2; rfl
theorem step_can {s : Snd} (h : okN s) {m : Nat} (hm : m < s.total) : canN (stS s m) ∧ outN (stS s m) = pcN s m ∧ nextN (stS s m) = ⟨s.id, s.size, s.text, s.window, m, m + 1⟩ := by
  have e : min m s.total = m := by omega
  have hc : canN (stS s m) := by
    have := h.win
    show ((min m s.total : Nat) : Int) < min (s.total : Int) (((min m s.total : Nat) : Int) + s.window)
    rw [e]; omega
  refine ⟨hc, ?_, ?_⟩
  · unfold outN; rw [if_pos hc]
    show pcN _ (min m s.total) = _
    rw [e]; rfl
  · unfold nextN; rw [if_pos hc]
    show (⟨_, _, _, _, min m s.total, min m s.total + 1⟩ : Snd) = _
    rw [e]; rfl
theorem step_ack {s : Snd} {m : Nat} (hm : m < s.total) : ackN ⟨s.id, s.size, s.text, s.window, m, m + 1⟩ s.id ((m + 1 : Nat) : Int) = (stS s (m + 1), 0) := by
  have e : (⟨s.id, s.size, s.text, s.window, m, m + 1⟩ : Snd).total = s.total := rfl
  unfold ackN
  rw [if_neg (by simp), e, if_neg (by omega)]
  unfold stS
  rw [show min (m + 1) s.total = m + 1 by omega]
  simp
theorem step_take {s : Snd} (h : okN s) {r : Rcv} (hr : r.id < s.id) {m : Nat} (hm : m < s.total) : takeR (stR r s m) (pcN s m) = stR r s (m + 1) := by
  have h1 := h.id
  have hf := h.few
  have h4 := pieceOf_len s.size s.text m
  have h5 := h.size
  have e1 : stR r s (m + 1) = ⟨s.id, s.total, firstOf s.size s.text (m + 1)⟩ := by
    unfold stR; rw [if_neg (by omega), show min (m + 1) s.total = m + 1 by omega]
  rw [e1, firstOf_succ]
  have hid : (stR r s m).id ≤ s.id := by
    unfold stR; split
    · omega
    · exact Int.le_refl _
  have hmay : mayR (stR r s m) (pcN s m) := by
    refine ⟨?_, ⟨?_, ?_⟩, ⟨?_, ?_⟩, ?_, ?_⟩
    · show max _ 1 ≤ s.id; omega
    · show 1 ≤ (s.total : Int); omega
    · show (s.total : Int) ≤ 4096; omega
    · show 0 ≤ (m : Int); omega
    · show (m : Int) ≤ (s.total : Int) - 1; omega
    · show (pieceOf s.size s.text m).length ≤ 512; omega
    · unfold stR; split
      · exact .inl hr
      · exact .inr rfl
  unfold takeR
  rw [if_pos hmay]
  have hfr : freshR (stR r s m) (pcN s m) = ⟨s.id, s.total, firstOf s.size s.text m⟩ := by
    unfold freshR stR
    by_cases h0 : m = 0
    · subst h0
      rw [if_pos rfl]
      show (if r.id < s.id then _ else _) = _
      rw [if_pos hr]; rfl
    · rw [if_neg h0, show min m s.total = m by omega]
      show (if s.id < s.id then _ else _) = _
      rw [if_neg (Int.lt_irrefl _)]
  rw [hfr]
  unfold addR
  rw [if_pos (by show (m : Int) = ((firstOf s.size s.text m).length : Int); rw [firstOf_len])]
  rfl
theorem step_rest {s : Snd} {r : Rcv} {m : Nat} (hm : s.total ≤ m) (h1 : 1 ≤ s.total) : ¬ canN (stS s m) ∧ nextN (stS s m) = stS s (m + 1) ∧ stR r s (m + 1) = stR r s m := by
  have e : min m s.total = s.total := by omega
  have e2 : min (m + 1) s.total = s.total := by omega
  have hc : ¬ canN (stS s m) := by
    show ¬ ((min m s.total : Nat) : Int) < min (s.total : Int) (((min m s.total : Nat) : Int) + s.window)
    rw [e]; omega
  refine ⟨hc, ?_, ?_⟩
  · unfold nextN; rw [if_neg hc]; unfold stS; rw [e, e2]
  · unfold stR; rw [if_neg (by omega), if_neg (by omega), e, e2]
theorem step_end {s : Snd} (h : okN s) {r : Rcv} {m : Nat} (hm : s.total ≤ m) : (stS s m).got = (stS s m).total ∧ allR (stR r s m) ∧ textR (stR r s m) = s.text ∧ (stR r s m).id = s.id := by
  have h1 : 1 ≤ s.total := cnt_pos _ _
  have e : min m s.total = s.total := by omega
  have er : stR r s m = ⟨s.id, s.total, pieces s.size s.text⟩ := by unfold stR; rw [if_neg (by omega), e]; rfl
  have ha : allR (stR r s m) := by
    rw [er]
    refine ⟨by show (s.total : Int) ≠ 0; omega, ?_⟩
    show (s.total : Int) ≤ ((pieces s.size s.text).length : Int)
    rw [pieces_len]; exact Int.le_refl _
  refine ⟨e, ha, ?_, by rw [er]⟩
  unfold textR
  rw [if_pos ha, er]
  exact pieces_flat s.text h.size.1
theorem stR_ok {r : Rcv} (hr : okR r) {s : Snd} (h : okN s) (m : Nat) : okR (stR r s m) := by
  have hf := h.few
  have h5 := h.size
  unfold stR; split
  · exact hr
  · refine ⟨fun x hx => ?_, by show (firstOf _ _ _).length ≤ _; rw [firstOf_len]; omega⟩
    obtain ⟨i, _, rfl⟩ := List.mem_map.1 hx
    have := pieceOf_len s.size s.text i
    omega
set_option maxHeartbeats 8000000 in
theorem lawTEnds_pu {ta tb : List UInt8} {n3 n4 : Int} (h3 : 0 ≤ n3 ∧ n3 ≤ 255) (h4 : 0 ≤ n4 ∧ n4 ≤ 255) : Pu Try.prog 3 #[.string (mk ta), .string (mk tb), .agg #[.int .u8 n3, .int .u8 n4]] (.bool true) := by
  intro w0
  have st : St No w0 w0 [] := St.start w0
  have hma : (mk ta).size = ta.length := rfl
  have hmb : (mk tb).size = tb.length := rfl
  refine lawTEnds_ok _ _ _ _ _ _ ?_
  unfold lawTEnds
  refine St.alloc st ?_; clear st; intro bz w st
  refine Br.dec (fun h => ?_) (fun ha => ?_)
  · repeat' first
      | (with_reducible refine St.alloc st ?_; (try clear st); intro b w st)
      | with_reducible refine sz_and (by (repeat rw [ByteArray.size_append]); omega) ?_
      | (refine Pu.go (gone_pu) st ?_; (try clear st); intro w st; refine ⟨_, rfl, ?_⟩)
      | (with_reducible apply ex0c; case h => first | exact St.cell st 0 rfl rfl | exact St.cell st 1 rfl rfl | exact St.cell st 2 rfl rfl | exact St.cell st 3 rfl rfl | fail)
      | (with_reducible apply ex1c; case h => first | exact St.cell st 0 rfl rfl | exact St.cell st 1 rfl rfl | exact St.cell st 2 rfl rfl | exact St.cell st 3 rfl rfl | fail)
      | (with_reducible apply ex3c; case h => first | exact St.cell st 0 rfl rfl | exact St.cell st 1 rfl rfl | exact St.cell st 2 rfl rfl | exact St.cell st 3 rfl rfl | fail)
      | (with_reducible apply ex0r; case h => first | exact St.rows st 0 rfl | exact St.rows st 1 rfl | exact St.rows st 2 rfl | exact St.rows st 3 rfl | fail)
      | (with_reducible apply exr2; case h => first | exact St.rows st 0 rfl | exact St.rows st 1 rfl | exact St.rows st 2 rfl | exact St.rows st 3 rfl | fail)
      | (with_reducible apply exr3; case h => first | exact St.rows st 0 rfl | exact St.rows st 1 rfl | exact St.rows st 2 rfl | exact St.rows st 3 rfl | fail)
      | (with_reducible apply exr4; case h => first | exact St.rows st 0 rfl | exact St.rows st 1 rfl | exact St.rows st 2 rfl | exact St.rows st 3 rfl | fail)
      | (with_reducible apply exr5; case h => first | exact St.rows st 0 rfl | exact St.rows st 1 rfl | exact St.rows st 2 rfl | exact St.rows st 3 rfl | fail)
      | (with_reducible apply exr6; case h => first | exact St.rows st 0 rfl | exact St.rows st 1 rfl | exact St.rows st 2 rfl | exact St.rows st 3 rfl | fail)
      | (with_reducible apply exWr; case h => first | exact St.wr st 0 rfl rfl | exact St.wr st 1 rfl rfl | exact St.wr st 2 rfl rfl | exact St.wr st 3 rfl rfl | fail)
      | (with_reducible apply exWrRow; case h => first | exact St.wrRow st 0 rfl rfl rfl | exact St.wrRow st 1 rfl rfl rfl | exact St.wrRow st 2 rfl rfl rfl | exact St.wrRow st 3 rfl rfl rfl | fail)
      | (with_reducible refine LetW.cell ?_; (first | refine St.store st 0 rfl ?_ | refine St.store st 1 rfl ?_ | refine St.store st 2 rfl ?_ | refine St.store st 3 rfl ?_ | fail); (try clear st); intro w st; simp only [List.set] at st)
      | (with_reducible refine LetW.rows ?_; (first | refine St.storeRow st 0 rfl ?_ | refine St.storeRow st 1 rfl ?_ | refine St.storeRow st 2 rfl ?_ | refine St.storeRow st 3 rfl ?_ | fail); (try clear st); intro w st; simp only [List.set, setsL] at st)
      | ((with_reducible apply exr4); case h => first | exact St.rowAt st 0 rfl rfl | exact St.rowAt st 1 rfl rfl | exact St.rowAt st 2 rfl rfl | exact St.rowAt st 3 rfl rfl | fail)
      | ((with_reducible apply exr5); case h => first | exact St.rowAt st 0 rfl rfl | exact St.rowAt st 1 rfl rfl | exact St.rowAt st 2 rfl rfl | exact St.rowAt st 3 rfl rfl | fail)
      | ((with_reducible apply exr6); case h => first | exact St.rowAt st 0 rfl rfl | exact St.rowAt st 1 rfl rfl | exact St.rowAt st 2 rfl rfl | exact St.rowAt st 3 rfl rfl | fail)
      | with_reducible refine LetI.id (by omega) (by omega) ?_
      | with_reducible refine Br.dec (fun h => ?_) (fun h => ?_)
      | with_reducible refine Br.eqi (fun h => ?_) (fun h => ?_)
      | with_reducible refine Br.nei (fun h => ?_) (fun h => ?_)
      | with_reducible refine Br.eqs' (fun h => ?_) (fun h => ?_)
      | with_reducible refine Br.eqs (fun h => ?_) (fun h => ?_)
      | with_reducible refine Br.not ?_
      | with_reducible refine Br.and_ ?_
      | with_reducible refine Br.sure rfl ?_
      | with_reducible refine Br.nay rfl ?_
      | with_reducible refine Br.eqb (fun h => ?_) (fun h => ?_)
      | with_reducible refine Br.bool (fun h => ?_) (fun h => ?_)
      | fail
    exact ⟨rfl, st.kp⟩
  refine Br.dec (fun h => ?_) (fun hb => ?_)
  · repeat' first
      | (with_reducible refine St.alloc st ?_; (try clear st); intro b w st)
      | with_reducible refine sz_and (by (repeat rw [ByteArray.size_append]); omega) ?_
      | (refine Pu.go (gone_pu) st ?_; (try clear st); intro w st; refine ⟨_, rfl, ?_⟩)
      | (with_reducible apply ex0c; case h => first | exact St.cell st 0 rfl rfl | exact St.cell st 1 rfl rfl | exact St.cell st 2 rfl rfl | exact St.cell st 3 rfl rfl | fail)
      | (with_reducible apply ex1c; case h => first | exact St.cell st 0 rfl rfl | exact St.cell st 1 rfl rfl | exact St.cell st 2 rfl rfl | exact St.cell st 3 rfl rfl | fail)
      | (with_reducible apply ex3c; case h => first | exact St.cell st 0 rfl rfl | exact St.cell st 1 rfl rfl | exact St.cell st 2 rfl rfl | exact St.cell st 3 rfl rfl | fail)
      | (with_reducible apply ex0r; case h => first | exact St.rows st 0 rfl | exact St.rows st 1 rfl | exact St.rows st 2 rfl | exact St.rows st 3 rfl | fail)
      | (with_reducible apply exr2; case h => first | exact St.rows st 0 rfl | exact St.rows st 1 rfl | exact St.rows st 2 rfl | exact St.rows st 3 rfl | fail)
      | (with_reducible apply exr3; case h => first | exact St.rows st 0 rfl | exact St.rows st 1 rfl | exact St.rows st 2 rfl | exact St.rows st 3 rfl | fail)
      | (with_reducible apply exr4; case h => first | exact St.rows st 0 rfl | exact St.rows st 1 rfl | exact St.rows st 2 rfl | exact St.rows st 3 rfl | fail)
      | (with_reducible apply exr5; case h => first | exact St.rows st 0 rfl | exact St.rows st 1 rfl | exact St.rows st 2 rfl | exact St.rows st 3 rfl | fail)
      | (with_reducible apply exr6; case h => first | exact St.rows st 0 rfl | exact St.rows st 1 rfl | exact St.rows st 2 rfl | exact St.rows st 3 rfl | fail)
      | (with_reducible apply exWr; case h => first | exact St.wr st 0 rfl rfl | exact St.wr st 1 rfl rfl | exact St.wr st 2 rfl rfl | exact St.wr st 3 rfl rfl | fail)
      | (with_reducible apply exWrRow; case h => first | exact St.wrRow st 0 rfl rfl rfl | exact St.wrRow st 1 rfl rfl rfl | exact St.wrRow st 2 rfl rfl rfl | exact St.wrRow st 3 rfl rfl rfl | fail)
      | (with_reducible refine LetW.cell ?_; (first | refine St.store st 0 rfl ?_ | refine St.store st 1 rfl ?_ | refine St.store st 2 rfl ?_ | refine St.store st 3 rfl ?_ | fail); (try clear st); intro w st; simp only [List.set] at st)
      | (with_reducible refine LetW.rows ?_; (first | refine St.storeRow st 0 rfl ?_ | refine St.storeRow st 1 rfl ?_ | refine St.storeRow st 2 rfl ?_ | refine St.storeRow st 3 rfl ?_ | fail); (try clear st); intro w st; simp only [List.set, setsL] at st)
      | ((with_reducible apply exr4); case h => first | exact St.rowAt st 0 rfl rfl | exact St.rowAt st 1 rfl rfl | exact St.rowAt st 2 rfl rfl | exact St.rowAt st 3 rfl rfl | fail)
      | ((with_reducible apply exr5); case h => first | exact St.rowAt st 0 rfl rfl | exact St.rowAt st 1 rfl rfl | exact St.rowAt st 2 rfl rfl | exact St.rowAt st 3 rfl rfl | fail)
      | ((with_reducible apply exr6); case h => first | exact St.rowAt st 0 rfl rfl | exact St.rowAt st 1 rfl rfl | exact St.rowAt st 2 rfl rfl | exact St.rowAt st 3 rfl rfl | fail)
      | with_reducible refine LetI.id (by omega) (by omega) ?_
      | with_reducible refine Br.dec (fun h => ?_) (fun h => ?_)
      | with_reducible refine Br.eqi (fun h => ?_) (fun h => ?_)
      | with_reducible refine Br.nei (fun h => ?_) (fun h => ?_)
      | with_reducible refine Br.eqs' (fun h => ?_) (fun h => ?_)
      | with_reducible refine Br.eqs (fun h => ?_) (fun h => ?_)
      | with_reducible refine Br.not ?_
      | with_reducible refine Br.and_ ?_
      | with_reducible refine Br.sure rfl ?_
      | with_reducible refine Br.nay rfl ?_
      | with_reducible refine Br.eqb (fun h => ?_) (fun h => ?_)
      | with_reducible refine Br.bool (fun h => ?_) (fun h => ?_)
      | fail
    exact ⟨rfl, st.kp⟩
  refine rnew_go st ?_
  clear st; intro br w st
  refine ⟨_, rfl, ?_⟩
  refine St.alloc st ?_; clear st; intro bt w st
  repeat' first
    | (with_reducible refine St.alloc st ?_; (try clear st); intro b w st)
    | with_reducible refine sz_and (by (repeat rw [ByteArray.size_append]); omega) ?_
    | (with_reducible apply ex0c; case h => first | exact St.cell st 0 rfl rfl | exact St.cell st 1 rfl rfl | exact St.cell st 2 rfl rfl | exact St.cell st 3 rfl rfl | fail)
    | (with_reducible apply ex1c; case h => first | exact St.cell st 0 rfl rfl | exact St.cell st 1 rfl rfl | exact St.cell st 2 rfl rfl | exact St.cell st 3 rfl rfl | fail)
    | (with_reducible apply ex3c; case h => first | exact St.cell st 0 rfl rfl | exact St.cell st 1 rfl rfl | exact St.cell st 2 rfl rfl | exact St.cell st 3 rfl rfl | fail)
    | (with_reducible apply ex0r; case h => first | exact St.rows st 0 rfl | exact St.rows st 1 rfl | exact St.rows st 2 rfl | exact St.rows st 3 rfl | fail)
    | (with_reducible apply exr2; case h => first | exact St.rows st 0 rfl | exact St.rows st 1 rfl | exact St.rows st 2 rfl | exact St.rows st 3 rfl | fail)
    | (with_reducible apply exr3; case h => first | exact St.rows st 0 rfl | exact St.rows st 1 rfl | exact St.rows st 2 rfl | exact St.rows st 3 rfl | fail)
    | (with_reducible apply exr4; case h => first | exact St.rows st 0 rfl | exact St.rows st 1 rfl | exact St.rows st 2 rfl | exact St.rows st 3 rfl | fail)
    | (with_reducible apply exr5; case h => first | exact St.rows st 0 rfl | exact St.rows st 1 rfl | exact St.rows st 2 rfl | exact St.rows st 3 rfl | fail)
    | (with_reducible apply exr6; case h => first | exact St.rows st 0 rfl | exact St.rows st 1 rfl | exact St.rows st 2 rfl | exact St.rows st 3 rfl | fail)
    | (with_reducible apply exWr; case h => first | exact St.wr st 0 rfl rfl | exact St.wr st 1 rfl rfl | exact St.wr st 2 rfl rfl | exact St.wr st 3 rfl rfl | fail)
    | (with_reducible apply exWrRow; case h => first | exact St.wrRow st 0 rfl rfl rfl | exact St.wrRow st 1 rfl rfl rfl | exact St.wrRow st 2 rfl rfl rfl | exact St.wrRow st 3 rfl rfl rfl | fail)
    | (with_reducible refine LetW.cell ?_; (first | refine St.store st 0 rfl ?_ | refine St.store st 1 rfl ?_ | refine St.store st 2 rfl ?_ | refine St.store st 3 rfl ?_ | fail); (try clear st); intro w st; simp only [List.set] at st)
    | (with_reducible refine LetW.rows ?_; (first | refine St.storeRow st 0 rfl ?_ | refine St.storeRow st 1 rfl ?_ | refine St.storeRow st 2 rfl ?_ | refine St.storeRow st 3 rfl ?_ | fail); (try clear st); intro w st; simp only [List.set, setsL] at st)
    | ((with_reducible apply exr4); case h => first | exact St.rowAt st 0 rfl rfl | exact St.rowAt st 1 rfl rfl | exact St.rowAt st 2 rfl rfl | exact St.rowAt st 3 rfl rfl | fail)
    | ((with_reducible apply exr5); case h => first | exact St.rowAt st 0 rfl rfl | exact St.rowAt st 1 rfl rfl | exact St.rowAt st 2 rfl rfl | exact St.rowAt st 3 rfl rfl | fail)
    | ((with_reducible apply exr6); case h => first | exact St.rowAt st 0 rfl rfl | exact St.rowAt st 1 rfl rfl | exact St.rowAt st 2 rfl rfl | exact St.rowAt st 3 rfl rfl | fail)
    | with_reducible refine LetI.id (by omega) (by omega) ?_
    | fail
  refine ⟨⟨by decide, by decide⟩, _, st.cell 3 rfl rfl, ?_⟩
  refine LetI.id (by omega) (by omega) ⟨by decide, LetI.of ?_⟩
  rw [Int.tmod_eq_emod_of_nonneg (by omega)]
  obtain ⟨wn, hwn⟩ : ∃ q : Nat, 1 + n4 % 16 = (q : Int) := ⟨(1 + n4 % 16).toNat, by omega⟩
  refine LetI.id (by omega) (by omega) ?_
  rw [hwn]
  have hw1 : 1 ≤ wn ∧ wn ≤ 16 := by omega
  obtain ⟨sz, hsz⟩ : ∃ q : Nat, 1 + n3 % 60 = (q : Int) := ⟨(1 + n3 % 60).toNat, by omega⟩
  have hs1 : 1 ≤ sz ∧ sz ≤ 60 := by omega
  refine ⟨fun m v w' => ∃ (t : Nat) (r : Rcv) (p : Option Addr) (k : Nat), v = [.bool false, .int .i64 (t : Int)] ∧ m = 2 - t ∧ t ≤ 2 ∧ okR r ∧ r.id < 3 + t ∧ (t = 2 → r.id = 4) ∧ St No w0 w' [rcvB br r p k, rcvR r p k, .blk bt 26 [.string (mk ta), .string (mk tb)], .blk bz 22 [.int .u8 n3, .int .u8 n4]], ⟨_, 0, .new, none, 0, rfl, rfl, by omega, ⟨fun x hx => by simp [Rcv.new] at hx, by decide⟩, by decide, by decide, st.pick [1, 2, 0, 3] rfl (by decide)⟩, ?_⟩
  clear st
  rintro _ _ _ w ⟨t, r, p, k, hv, rfl, ht, hr, hid, hid2, st⟩
  obtain ⟨rfl, rfl⟩ : _ ∧ _ := by simpa using hv
  clear hv
  have cellZ : ∀ {w : World} {L : List Atom} (k : Nat), L[k]? = some (.blk bz 22 [.int .u8 n3, .int .u8 n4]) → St No w0 w L → w.cell? ⟨bz, 0, none⟩ = some (.int .u8 n3) := fun k hk st => st.cell k hk rfl
  refine Br.dec (fun h1 => ?_) (fun h1 => ?_)
  · obtain ⟨txt, htl, hcl⟩ : ∃ txt : List UInt8, txt.length ≤ 400 ∧ [Value.string (mk ta), .string (mk tb)][t]? = some (.string (mk txt)) := by
      rcases (show t = 0 ∨ t = 1 by omega) with rfl | rfl
      · exact ⟨ta, by omega, rfl⟩
      · exact ⟨tb, by omega, rfl⟩
    have hct : ∀ {w : World} {L : List Atom} (k : Nat), L[k]? = some (.blk bt 26 [.string (mk ta), .string (mk tb)]) → St No w0 w L → w.cell? ((⟨bt, 0, none⟩ : Addr).add (t * 1)) = some (.string (mk txt)) := fun k hk st => by
      rw [add_head, Nat.mul_one]; exact st.cell k hk hcl
    have ho : argOk (3 + (t : Int)) (sz : Int) (wn : Int) := by unfold argOk inB; omega
    have hs0 := newN_ok (l := txt) ho (by omega)
    simp only [Int.toNat_natCast] at hs0
    have hgot : (newN (3 + (t : Int)) sz txt wn).got = 0 := rfl
    have hsent : (newN (3 + (t : Int)) sz txt wn).sent = 0 := rfl
    have hsid : (newN (3 + (t : Int)) sz txt wn).id = 3 + (t : Int) := rfl
    have htot : (newN (3 + (t : Int)) sz txt wn).total = cnt sz txt.length := rfl
    have htxt : (newN (3 + (t : Int)) sz txt wn).text = txt := rfl
    have hrd := rounds_do (size := sz) (len := txt.length) hw1.1
    refine LetI.id (by omega) (by omega) ⟨⟨by omega, by omega⟩, _, hct 2 rfl st, ⟨by decide, by decide⟩, _, cellZ 3 rfl st, ?_⟩
    refine LetI.id (by omega) (by omega) ⟨by decide, LetI.of ?_⟩
    rw [Int.tmod_eq_emod_of_nonneg (by omega)]
    refine LetI.id (by omega) (by omega) ?_
    rw [hsz]
    refine (topen_ca (l := txt) (by omega)).mono ?_
    rintro _ w1 (⟨hno, _⟩ | ⟨_, b, pp, kk, rfl, st1⟩)
    · exact absurd ho hno
    replace st := st.made st1
    clear st1
    simp only [Int.toNat_natCast, List.cons_append, List.nil_append] at st
    refine ⟨_, _, rfl, Br.nei (fun h => absurd rfl h) (fun _ => ?_)⟩
    refine ⟨⟨by omega, by omega⟩, _, hct 4 rfl st, ⟨by decide, by decide⟩, _, cellZ 5 rfl st, ?_⟩
    refine LetI.id (by omega) (by omega) ⟨by decide, LetI.of ?_⟩
    rw [Int.tmod_eq_emod_of_nonneg (by omega)]
    refine LetI.id (by omega) (by omega) ?_
    rw [hsz]
    have hd1 : ((mk txt).size : Int).tdiv (sz : Int) = ((txt.length / sz : Nat) : Int) := by rw [mk_size, Int.tdiv_eq_ediv_of_nonneg (by omega)]; rfl
    have hle1 : txt.length / sz ≤ txt.length := Nat.div_le_self _ _
    have hd2 : ((txt.length / sz : Nat) : Int).tdiv (wn : Int) = ((txt.length / sz / wn : Nat) : Int) := by rw [Int.tdiv_eq_ediv_of_nonneg (Int.natCast_nonneg _)]; rfl
    have hle2 : txt.length / sz / wn ≤ txt.length / sz := Nat.div_le_self _ _
    generalize txt.length / sz = q1 at *
    generalize q1 / wn = q2 at *
    refine ⟨by omega, ?_⟩
    rw [hd1]
    refine LetI.id (by omega) (by omega) ⟨by omega, ?_⟩
    rw [hd2]
    refine LetI.id (by omega) (by omega) (LetI.id (by omega) (by omega) ?_)
    obtain ⟨rn, hrn⟩ : ∃ q : Nat, q = q2 + 2 := ⟨_, rfl⟩
    rw [show (q2 : Int) + 2 = (rn : Int) by omega]
    rw [← hrn] at hrd
    generalize newN (3 + (t : Int)) sz txt wn = s0 at *
    have hr0 : r.id < s0.id := by omega
    have htot1 : 1 ≤ s0.total := cnt_pos _ _
    rw [← htot] at hrd
    rw [show sndA b s0 pp kk = sndA b (stS s0 0) pp kk by rw [stS_zero hgot hsent]] at st
    refine ⟨fun m v w' => ∃ (i : Nat) (p : Option Addr) (k : Nat), v = [.bool false, .int .i64 (i : Int)] ∧ m = rn - i ∧ i ≤ rn ∧ St No w0 w' [rcvB br (stR r s0 (i * wn)) p k, rcvR (stR r s0 (i * wn)) p k, sndA b (stS s0 (i * wn)) pp kk, sndR s0 pp kk, .blk bt 26 [.string (mk ta), .string (mk tb)], .blk bz 22 [.int .u8 n3, .int .u8 n4]], ⟨_, 0, p, k, rfl, rfl, Nat.zero_le _, by rw [Nat.zero_mul, show stR r s0 0 = r from if_pos rfl]; exact st.pick [2, 3, 0, 1, 4, 5] rfl (by decide)⟩, ?_⟩
    clear st
    rintro _ _ _ w ⟨i, p, k, hv, rfl, hi, st⟩
    obtain ⟨rfl, rfl⟩ : _ ∧ _ := by simpa using hv
    clear hv
    refine Br.dec (fun h2 => ?_) (fun h2 => ?_)
    · have hin : (i + 1) * wn = i * wn + wn := Nat.succ_mul _ _
      refine ⟨fun m v w' => ∃ (q : Nat) (p : Option Addr) (k : Nat), v = [.bool false, .int .i64 (q : Int)] ∧ m = wn - q ∧ q ≤ wn ∧ St No w0 w' [rcvB br (stR r s0 (i * wn + q)) p k, rcvR (stR r s0 (i * wn + q)) p k, sndA b (stS s0 (i * wn + q)) pp kk, sndR s0 pp kk, .blk bt 26 [.string (mk ta), .string (mk tb)], .blk bz 22 [.int .u8 n3, .int .u8 n4]], ⟨_, 0, p, k, rfl, rfl, Nat.zero_le _, st⟩, ?_⟩
      clear st
      rintro _ _ _ w ⟨q, p, k, hv, rfl, hq, st⟩
      obtain ⟨rfl, rfl⟩ : _ ∧ _ := by simpa using hv
      clear hv
      refine Br.dec (fun h3 => ?_) (fun h3 => ?_)
      case refine_2 =>
        obtain rfl : q = wn := by omega
        rw [← hin] at st
        repeat' first
          | (with_reducible refine St.alloc st ?_; (try clear st); intro b w st)
          | with_reducible refine sz_and (by (repeat rw [ByteArray.size_append]); omega) ?_
          | (with_reducible apply ex0c; case h => first | exact St.cell st 0 rfl rfl | exact St.cell st 1 rfl rfl | exact St.cell st 2 rfl rfl | exact St.cell st 3 rfl rfl | fail)
          | (with_reducible apply ex1c; case h => first | exact St.cell st 0 rfl rfl | exact St.cell st 1 rfl rfl | exact St.cell st 2 rfl rfl | exact St.cell st 3 rfl rfl | fail)
          | (with_reducible apply ex3c; case h => first | exact St.cell st 0 rfl rfl | exact St.cell st 1 rfl rfl | exact St.cell st 2 rfl rfl | exact St.cell st 3 rfl rfl | fail)
          | (with_reducible apply ex0r; case h => first | exact St.rows st 0 rfl | exact St.rows st 1 rfl | exact St.rows st 2 rfl | exact St.rows st 3 rfl | fail)
          | (with_reducible apply exr2; case h => first | exact St.rows st 0 rfl | exact St.rows st 1 rfl | exact St.rows st 2 rfl | exact St.rows st 3 rfl | fail)
          | (with_reducible apply exr3; case h => first | exact St.rows st 0 rfl | exact St.rows st 1 rfl | exact St.rows st 2 rfl | exact St.rows st 3 rfl | fail)
          | (with_reducible apply exr4; case h => first | exact St.rows st 0 rfl | exact St.rows st 1 rfl | exact St.rows st 2 rfl | exact St.rows st 3 rfl | fail)
          | (with_reducible apply exr5; case h => first | exact St.rows st 0 rfl | exact St.rows st 1 rfl | exact St.rows st 2 rfl | exact St.rows st 3 rfl | fail)
          | (with_reducible apply exr6; case h => first | exact St.rows st 0 rfl | exact St.rows st 1 rfl | exact St.rows st 2 rfl | exact St.rows st 3 rfl | fail)
          | (with_reducible apply exWr; case h => first | exact St.wr st 0 rfl rfl | exact St.wr st 1 rfl rfl | exact St.wr st 2 rfl rfl | exact St.wr st 3 rfl rfl | fail)
          | (with_reducible apply exWrRow; case h => first | exact St.wrRow st 0 rfl rfl rfl | exact St.wrRow st 1 rfl rfl rfl | exact St.wrRow st 2 rfl rfl rfl | exact St.wrRow st 3 rfl rfl rfl | fail)
          | (with_reducible refine LetW.cell ?_; (first | refine St.store st 0 rfl ?_ | refine St.store st 1 rfl ?_ | refine St.store st 2 rfl ?_ | refine St.store st 3 rfl ?_ | fail); (try clear st); intro w st; simp only [List.set] at st)
          | (with_reducible refine LetW.rows ?_; (first | refine St.storeRow st 0 rfl ?_ | refine St.storeRow st 1 rfl ?_ | refine St.storeRow st 2 rfl ?_ | refine St.storeRow st 3 rfl ?_ | fail); (try clear st); intro w st; simp only [List.set, setsL] at st)
          | ((with_reducible apply exr4); case h => first | exact St.rowAt st 0 rfl rfl | exact St.rowAt st 1 rfl rfl | exact St.rowAt st 2 rfl rfl | exact St.rowAt st 3 rfl rfl | fail)
          | ((with_reducible apply exr5); case h => first | exact St.rowAt st 0 rfl rfl | exact St.rowAt st 1 rfl rfl | exact St.rowAt st 2 rfl rfl | exact St.rowAt st 3 rfl rfl | fail)
          | ((with_reducible apply exr6); case h => first | exact St.rowAt st 0 rfl rfl | exact St.rowAt st 1 rfl rfl | exact St.rowAt st 2 rfl rfl | exact St.rowAt st 3 rfl rfl | fail)
          | with_reducible refine LetI.id (by omega) (by omega) ?_
          | fail
        exact ⟨_, by omega, i + 1, p, k, by simp, rfl, by omega, st⟩
      have hok := stS_ok hs0 (i * wn + q)
      have hrow : sndR (stS s0 (i * wn + q)) pp kk = sndR s0 pp kk := rfl
      rw [← hrow] at st
      refine Tr.go (snext_tr _ _ pp kk hok) st 2 3 rfl rfl (by decide) (fun _ hg => hg) ?_
      clear st
      intro w st
      simp only [List.set] at st
      rw [hrow] at st
      refine ⟨_, _, _, _, _, rfl, ?_⟩
      rcases Nat.lt_or_ge (i * wn + q) s0.total with hm | hm
      · obtain ⟨c1, c2, c3⟩ := step_can hs0 hm
        have c4 := step_ack (s := s0) hm
        have c5 := step_take hs0 hr0 hm
        have c6 := stR_ok hr hs0 (i * wn + q)
        have hl : (stR r s0 (i * wn + q + 1)).ps.length = i * wn + q + 1 := by
          unfold stR; rw [if_neg (by omega)]
          show (firstOf _ _ _).length = _
          rw [firstOf_len]; omega
        have hi2 : (stR r s0 (i * wn + q + 1)).id = s0.id := by unfold stR; rw [if_neg (by omega)]
        have hokm : okN ⟨s0.id, s0.size, s0.text, s0.window, i * wn + q, i * wn + q + 1⟩ := by rw [← c3]; exact nextN_ok hok
        rw [c2, decide_eq_true c1]
        rw [c3] at st
        repeat' first
          | (with_reducible refine St.alloc st ?_; (try clear st); intro b w st)
          | with_reducible refine sz_and (by (repeat rw [ByteArray.size_append]); omega) ?_
          | (with_reducible apply ex0c; case h => first | exact St.cell st 0 rfl rfl | exact St.cell st 1 rfl rfl | exact St.cell st 2 rfl rfl | exact St.cell st 3 rfl rfl | exact St.cell st 4 rfl rfl | exact St.cell st 5 rfl rfl | exact St.cell st 6 rfl rfl | fail)
          | (with_reducible apply ex1c; case h => first | exact St.cell st 0 rfl rfl | exact St.cell st 1 rfl rfl | exact St.cell st 2 rfl rfl | exact St.cell st 3 rfl rfl | exact St.cell st 4 rfl rfl | exact St.cell st 5 rfl rfl | exact St.cell st 6 rfl rfl | fail)
          | (with_reducible apply ex3c; case h => first | exact St.cell st 0 rfl rfl | exact St.cell st 1 rfl rfl | exact St.cell st 2 rfl rfl | exact St.cell st 3 rfl rfl | exact St.cell st 4 rfl rfl | exact St.cell st 5 rfl rfl | exact St.cell st 6 rfl rfl | fail)
          | (with_reducible apply ex0r; case h => first | exact St.rows st 0 rfl | exact St.rows st 1 rfl | exact St.rows st 2 rfl | exact St.rows st 3 rfl | exact St.rows st 4 rfl | exact St.rows st 5 rfl | exact St.rows st 6 rfl | fail)
          | (with_reducible apply exr2; case h => first | exact St.rows st 0 rfl | exact St.rows st 1 rfl | exact St.rows st 2 rfl | exact St.rows st 3 rfl | exact St.rows st 4 rfl | exact St.rows st 5 rfl | exact St.rows st 6 rfl | fail)
          | (with_reducible apply exr3; case h => first | exact St.rows st 0 rfl | exact St.rows st 1 rfl | exact St.rows st 2 rfl | exact St.rows st 3 rfl | exact St.rows st 4 rfl | exact St.rows st 5 rfl | exact St.rows st 6 rfl | fail)
          | (with_reducible apply exr4; case h => first | exact St.rows st 0 rfl | exact St.rows st 1 rfl | exact St.rows st 2 rfl | exact St.rows st 3 rfl | exact St.rows st 4 rfl | exact St.rows st 5 rfl | exact St.rows st 6 rfl | fail)
          | (with_reducible apply exr5; case h => first | exact St.rows st 0 rfl | exact St.rows st 1 rfl | exact St.rows st 2 rfl | exact St.rows st 3 rfl | exact St.rows st 4 rfl | exact St.rows st 5 rfl | exact St.rows st 6 rfl | fail)
          | (with_reducible apply exr6; case h => first | exact St.rows st 0 rfl | exact St.rows st 1 rfl | exact St.rows st 2 rfl | exact St.rows st 3 rfl | exact St.rows st 4 rfl | exact St.rows st 5 rfl | exact St.rows st 6 rfl | fail)
          | (with_reducible apply exWr; case h => first | exact St.wr st 0 rfl rfl | exact St.wr st 1 rfl rfl | exact St.wr st 2 rfl rfl | exact St.wr st 3 rfl rfl | exact St.wr st 4 rfl rfl | exact St.wr st 5 rfl rfl | exact St.wr st 6 rfl rfl | fail)
          | (with_reducible apply exWrRow; case h => first | exact St.wrRow st 0 rfl rfl rfl | exact St.wrRow st 1 rfl rfl rfl | exact St.wrRow st 2 rfl rfl rfl | exact St.wrRow st 3 rfl rfl rfl | exact St.wrRow st 4 rfl rfl rfl | exact St.wrRow st 5 rfl rfl rfl | exact St.wrRow st 6 rfl rfl rfl | fail)
          | (with_reducible refine LetW.cell ?_; (first | refine St.store st 0 rfl ?_ | refine St.store st 1 rfl ?_ | refine St.store st 2 rfl ?_ | refine St.store st 3 rfl ?_ | refine St.store st 4 rfl ?_ | refine St.store st 5 rfl ?_ | refine St.store st 6 rfl ?_ | fail); (try clear st); intro w st; simp only [List.set] at st)
          | (with_reducible refine LetW.rows ?_; (first | refine St.storeRow st 0 rfl ?_ | refine St.storeRow st 1 rfl ?_ | refine St.storeRow st 2 rfl ?_ | refine St.storeRow st 3 rfl ?_ | refine St.storeRow st 4 rfl ?_ | refine St.storeRow st 5 rfl ?_ | refine St.storeRow st 6 rfl ?_ | fail); (try clear st); intro w st; simp only [List.set, setsL] at st)
          | ((with_reducible apply exr4); case h => first | exact St.rowAt st 0 rfl rfl | exact St.rowAt st 1 rfl rfl | exact St.rowAt st 2 rfl rfl | exact St.rowAt st 3 rfl rfl | exact St.rowAt st 4 rfl rfl | exact St.rowAt st 5 rfl rfl | exact St.rowAt st 6 rfl rfl | fail)
          | ((with_reducible apply exr5); case h => first | exact St.rowAt st 0 rfl rfl | exact St.rowAt st 1 rfl rfl | exact St.rowAt st 2 rfl rfl | exact St.rowAt st 3 rfl rfl | exact St.rowAt st 4 rfl rfl | exact St.rowAt st 5 rfl rfl | exact St.rowAt st 6 rfl rfl | fail)
          | ((with_reducible apply exr6); case h => first | exact St.rowAt st 0 rfl rfl | exact St.rowAt st 1 rfl rfl | exact St.rowAt st 2 rfl rfl | exact St.rowAt st 3 rfl rfl | exact St.rowAt st 4 rfl rfl | exact St.rowAt st 5 rfl rfl | exact St.rowAt st 6 rfl rfl | fail)
          | with_reducible refine LetI.id (by omega) (by omega) ?_
          | fail
        refine Br.sure rfl ?_
        repeat' first
          | (with_reducible refine St.alloc st ?_; (try clear st); intro b w st)
          | with_reducible refine sz_and (by (repeat rw [ByteArray.size_append]); omega) ?_
          | (with_reducible apply ex0c; case h => first | exact St.cell st 0 rfl rfl | exact St.cell st 1 rfl rfl | exact St.cell st 2 rfl rfl | exact St.cell st 3 rfl rfl | exact St.cell st 4 rfl rfl | exact St.cell st 5 rfl rfl | exact St.cell st 6 rfl rfl | fail)
          | (with_reducible apply ex1c; case h => first | exact St.cell st 0 rfl rfl | exact St.cell st 1 rfl rfl | exact St.cell st 2 rfl rfl | exact St.cell st 3 rfl rfl | exact St.cell st 4 rfl rfl | exact St.cell st 5 rfl rfl | exact St.cell st 6 rfl rfl | fail)
          | (with_reducible apply ex3c; case h => first | exact St.cell st 0 rfl rfl | exact St.cell st 1 rfl rfl | exact St.cell st 2 rfl rfl | exact St.cell st 3 rfl rfl | exact St.cell st 4 rfl rfl | exact St.cell st 5 rfl rfl | exact St.cell st 6 rfl rfl | fail)
          | (with_reducible apply ex0r; case h => first | exact St.rows st 0 rfl | exact St.rows st 1 rfl | exact St.rows st 2 rfl | exact St.rows st 3 rfl | exact St.rows st 4 rfl | exact St.rows st 5 rfl | exact St.rows st 6 rfl | fail)
          | (with_reducible apply exr2; case h => first | exact St.rows st 0 rfl | exact St.rows st 1 rfl | exact St.rows st 2 rfl | exact St.rows st 3 rfl | exact St.rows st 4 rfl | exact St.rows st 5 rfl | exact St.rows st 6 rfl | fail)
          | (with_reducible apply exr3; case h => first | exact St.rows st 0 rfl | exact St.rows st 1 rfl | exact St.rows st 2 rfl | exact St.rows st 3 rfl | exact St.rows st 4 rfl | exact St.rows st 5 rfl | exact St.rows st 6 rfl | fail)
          | (with_reducible apply exr4; case h => first | exact St.rows st 0 rfl | exact St.rows st 1 rfl | exact St.rows st 2 rfl | exact St.rows st 3 rfl | exact St.rows st 4 rfl | exact St.rows st 5 rfl | exact St.rows st 6 rfl | fail)
          | (with_reducible apply exr5; case h => first | exact St.rows st 0 rfl | exact St.rows st 1 rfl | exact St.rows st 2 rfl | exact St.rows st 3 rfl | exact St.rows st 4 rfl | exact St.rows st 5 rfl | exact St.rows st 6 rfl | fail)
          | (with_reducible apply exr6; case h => first | exact St.rows st 0 rfl | exact St.rows st 1 rfl | exact St.rows st 2 rfl | exact St.rows st 3 rfl | exact St.rows st 4 rfl | exact St.rows st 5 rfl | exact St.rows st 6 rfl | fail)
          | (with_reducible apply exWr; case h => first | exact St.wr st 0 rfl rfl | exact St.wr st 1 rfl rfl | exact St.wr st 2 rfl rfl | exact St.wr st 3 rfl rfl | exact St.wr st 4 rfl rfl | exact St.wr st 5 rfl rfl | exact St.wr st 6 rfl rfl | fail)
          | (with_reducible apply exWrRow; case h => first | exact St.wrRow st 0 rfl rfl rfl | exact St.wrRow st 1 rfl rfl rfl | exact St.wrRow st 2 rfl rfl rfl | exact St.wrRow st 3 rfl rfl rfl | exact St.wrRow st 4 rfl rfl rfl | exact St.wrRow st 5 rfl rfl rfl | exact St.wrRow st 6 rfl rfl rfl | fail)
          | (with_reducible refine LetW.cell ?_; (first | refine St.store st 0 rfl ?_ | refine St.store st 1 rfl ?_ | refine St.store st 2 rfl ?_ | refine St.store st 3 rfl ?_ | refine St.store st 4 rfl ?_ | refine St.store st 5 rfl ?_ | refine St.store st 6 rfl ?_ | fail); (try clear st); intro w st; simp only [List.set] at st)
          | (with_reducible refine LetW.rows ?_; (first | refine St.storeRow st 0 rfl ?_ | refine St.storeRow st 1 rfl ?_ | refine St.storeRow st 2 rfl ?_ | refine St.storeRow st 3 rfl ?_ | refine St.storeRow st 4 rfl ?_ | refine St.storeRow st 5 rfl ?_ | refine St.storeRow st 6 rfl ?_ | fail); (try clear st); intro w st; simp only [List.set, setsL] at st)
          | ((with_reducible apply exr4); case h => first | exact St.rowAt st 0 rfl rfl | exact St.rowAt st 1 rfl rfl | exact St.rowAt st 2 rfl rfl | exact St.rowAt st 3 rfl rfl | exact St.rowAt st 4 rfl rfl | exact St.rowAt st 5 rfl rfl | exact St.rowAt st 6 rfl rfl | fail)
          | ((with_reducible apply exr5); case h => first | exact St.rowAt st 0 rfl rfl | exact St.rowAt st 1 rfl rfl | exact St.rowAt st 2 rfl rfl | exact St.rowAt st 3 rfl rfl | exact St.rowAt st 4 rfl rfl | exact St.rowAt st 5 rfl rfl | exact St.rowAt st 6 rfl rfl | fail)
          | ((with_reducible apply exr6); case h => first | exact St.rowAt st 0 rfl rfl | exact St.rowAt st 1 rfl rfl | exact St.rowAt st 2 rfl rfl | exact St.rowAt st 3 rfl rfl | exact St.rowAt st 4 rfl rfl | exact St.rowAt st 5 rfl rfl | exact St.rowAt st 6 rfl rfl | fail)
          | with_reducible refine LetI.id (by omega) (by omega) ?_
          | fail
        replace st : St No w0 w [_, _, _, _, _, _] := st.pick [1, 2, 3, 4, 5, 6] rfl (by decide)
        refine Tk.go (rtake_tk br _ c6 p k (pcN s0 (i * wn + q)) (by have := hs0.few; show -9223372036854775808 ≤ (s0.total : Int) ∧ (s0.total : Int) ≤ _; omega)) st ?_
        clear st
        rintro _ _ w ⟨rfl, p', k', rfl⟩ st
        rw [c5] at st ⊢
        simp only [List.cons_append, List.nil_append] at st
        refine ⟨_, _, rfl, ?_⟩
        rw [hi2, hl, hsid]
        refine LetI.id (by omega) (by omega) (Br.nei (fun h => absurd rfl h) (fun _ => ?_))
        refine Tu.go (sack_tu _ _ pp kk hokm (3 + (t : Int)) ((i * wn + q + 1 : Nat) : Int)) st 2 rfl (fun _ hg => hg) ?_
        clear st
        intro w st
        rw [← hsid, c4] at st
        rw [← hsid, c4]
        simp only [List.set] at st
        refine ⟨_, rfl, Br.nei (fun h => absurd rfl h) (fun _ => ?_)⟩
        repeat' first
          | (with_reducible refine St.alloc st ?_; (try clear st); intro b w st)
          | with_reducible refine sz_and (by (repeat rw [ByteArray.size_append]); omega) ?_
          | (with_reducible apply ex0c; case h => first | exact St.cell st 0 rfl rfl | exact St.cell st 1 rfl rfl | exact St.cell st 2 rfl rfl | exact St.cell st 3 rfl rfl | fail)
          | (with_reducible apply ex1c; case h => first | exact St.cell st 0 rfl rfl | exact St.cell st 1 rfl rfl | exact St.cell st 2 rfl rfl | exact St.cell st 3 rfl rfl | fail)
          | (with_reducible apply ex3c; case h => first | exact St.cell st 0 rfl rfl | exact St.cell st 1 rfl rfl | exact St.cell st 2 rfl rfl | exact St.cell st 3 rfl rfl | fail)
          | (with_reducible apply ex0r; case h => first | exact St.rows st 0 rfl | exact St.rows st 1 rfl | exact St.rows st 2 rfl | exact St.rows st 3 rfl | fail)
          | (with_reducible apply exr2; case h => first | exact St.rows st 0 rfl | exact St.rows st 1 rfl | exact St.rows st 2 rfl | exact St.rows st 3 rfl | fail)
          | (with_reducible apply exr3; case h => first | exact St.rows st 0 rfl | exact St.rows st 1 rfl | exact St.rows st 2 rfl | exact St.rows st 3 rfl | fail)
          | (with_reducible apply exr4; case h => first | exact St.rows st 0 rfl | exact St.rows st 1 rfl | exact St.rows st 2 rfl | exact St.rows st 3 rfl | fail)
          | (with_reducible apply exr5; case h => first | exact St.rows st 0 rfl | exact St.rows st 1 rfl | exact St.rows st 2 rfl | exact St.rows st 3 rfl | fail)
          | (with_reducible apply exr6; case h => first | exact St.rows st 0 rfl | exact St.rows st 1 rfl | exact St.rows st 2 rfl | exact St.rows st 3 rfl | fail)
          | (with_reducible apply exWr; case h => first | exact St.wr st 0 rfl rfl | exact St.wr st 1 rfl rfl | exact St.wr st 2 rfl rfl | exact St.wr st 3 rfl rfl | fail)
          | (with_reducible apply exWrRow; case h => first | exact St.wrRow st 0 rfl rfl rfl | exact St.wrRow st 1 rfl rfl rfl | exact St.wrRow st 2 rfl rfl rfl | exact St.wrRow st 3 rfl rfl rfl | fail)
          | (with_reducible refine LetW.cell ?_; (first | refine St.store st 0 rfl ?_ | refine St.store st 1 rfl ?_ | refine St.store st 2 rfl ?_ | refine St.store st 3 rfl ?_ | fail); (try clear st); intro w st; simp only [List.set] at st)
          | (with_reducible refine LetW.rows ?_; (first | refine St.storeRow st 0 rfl ?_ | refine St.storeRow st 1 rfl ?_ | refine St.storeRow st 2 rfl ?_ | refine St.storeRow st 3 rfl ?_ | fail); (try clear st); intro w st; simp only [List.set, setsL] at st)
          | ((with_reducible apply exr4); case h => first | exact St.rowAt st 0 rfl rfl | exact St.rowAt st 1 rfl rfl | exact St.rowAt st 2 rfl rfl | exact St.rowAt st 3 rfl rfl | fail)
          | ((with_reducible apply exr5); case h => first | exact St.rowAt st 0 rfl rfl | exact St.rowAt st 1 rfl rfl | exact St.rowAt st 2 rfl rfl | exact St.rowAt st 3 rfl rfl | fail)
          | ((with_reducible apply exr6); case h => first | exact St.rowAt st 0 rfl rfl | exact St.rowAt st 1 rfl rfl | exact St.rowAt st 2 rfl rfl | exact St.rowAt st 3 rfl rfl | fail)
          | with_reducible refine LetI.id (by omega) (by omega) ?_
          | fail
        exact ⟨_, by omega, q + 1, p', k', by simp, rfl, by omega, st⟩
      · obtain ⟨c1, c2, c3⟩ := step_rest (r := r) hm htot1
        rw [decide_eq_false c1]
        rw [c2] at st
        repeat' first
          | (with_reducible refine St.alloc st ?_; (try clear st); intro b w st)
          | with_reducible refine sz_and (by (repeat rw [ByteArray.size_append]); omega) ?_
          | (with_reducible apply ex0c; case h => first | exact St.cell st 0 rfl rfl | exact St.cell st 1 rfl rfl | exact St.cell st 2 rfl rfl | exact St.cell st 3 rfl rfl | exact St.cell st 4 rfl rfl | exact St.cell st 5 rfl rfl | exact St.cell st 6 rfl rfl | fail)
          | (with_reducible apply ex1c; case h => first | exact St.cell st 0 rfl rfl | exact St.cell st 1 rfl rfl | exact St.cell st 2 rfl rfl | exact St.cell st 3 rfl rfl | exact St.cell st 4 rfl rfl | exact St.cell st 5 rfl rfl | exact St.cell st 6 rfl rfl | fail)
          | (with_reducible apply ex3c; case h => first | exact St.cell st 0 rfl rfl | exact St.cell st 1 rfl rfl | exact St.cell st 2 rfl rfl | exact St.cell st 3 rfl rfl | exact St.cell st 4 rfl rfl | exact St.cell st 5 rfl rfl | exact St.cell st 6 rfl rfl | fail)
          | (with_reducible apply ex0r; case h => first | exact St.rows st 0 rfl | exact St.rows st 1 rfl | exact St.rows st 2 rfl | exact St.rows st 3 rfl | exact St.rows st 4 rfl | exact St.rows st 5 rfl | exact St.rows st 6 rfl | fail)
          | (with_reducible apply exr2; case h => first | exact St.rows st 0 rfl | exact St.rows st 1 rfl | exact St.rows st 2 rfl | exact St.rows st 3 rfl | exact St.rows st 4 rfl | exact St.rows st 5 rfl | exact St.rows st 6 rfl | fail)
          | (with_reducible apply exr3; case h => first | exact St.rows st 0 rfl | exact St.rows st 1 rfl | exact St.rows st 2 rfl | exact St.rows st 3 rfl | exact St.rows st 4 rfl | exact St.rows st 5 rfl | exact St.rows st 6 rfl | fail)
          | (with_reducible apply exr4; case h => first | exact St.rows st 0 rfl | exact St.rows st 1 rfl | exact St.rows st 2 rfl | exact St.rows st 3 rfl | exact St.rows st 4 rfl | exact St.rows st 5 rfl | exact St.rows st 6 rfl | fail)
          | (with_reducible apply exr5; case h => first | exact St.rows st 0 rfl | exact St.rows st 1 rfl | exact St.rows st 2 rfl | exact St.rows st 3 rfl | exact St.rows st 4 rfl | exact St.rows st 5 rfl | exact St.rows st 6 rfl | fail)
          | (with_reducible apply exr6; case h => first | exact St.rows st 0 rfl | exact St.rows st 1 rfl | exact St.rows st 2 rfl | exact St.rows st 3 rfl | exact St.rows st 4 rfl | exact St.rows st 5 rfl | exact St.rows st 6 rfl | fail)
          | (with_reducible apply exWr; case h => first | exact St.wr st 0 rfl rfl | exact St.wr st 1 rfl rfl | exact St.wr st 2 rfl rfl | exact St.wr st 3 rfl rfl | exact St.wr st 4 rfl rfl | exact St.wr st 5 rfl rfl | exact St.wr st 6 rfl rfl | fail)
          | (with_reducible apply exWrRow; case h => first | exact St.wrRow st 0 rfl rfl rfl | exact St.wrRow st 1 rfl rfl rfl | exact St.wrRow st 2 rfl rfl rfl | exact St.wrRow st 3 rfl rfl rfl | exact St.wrRow st 4 rfl rfl rfl | exact St.wrRow st 5 rfl rfl rfl | exact St.wrRow st 6 rfl rfl rfl | fail)
          | (with_reducible refine LetW.cell ?_; (first | refine St.store st 0 rfl ?_ | refine St.store st 1 rfl ?_ | refine St.store st 2 rfl ?_ | refine St.store st 3 rfl ?_ | refine St.store st 4 rfl ?_ | refine St.store st 5 rfl ?_ | refine St.store st 6 rfl ?_ | fail); (try clear st); intro w st; simp only [List.set] at st)
          | (with_reducible refine LetW.rows ?_; (first | refine St.storeRow st 0 rfl ?_ | refine St.storeRow st 1 rfl ?_ | refine St.storeRow st 2 rfl ?_ | refine St.storeRow st 3 rfl ?_ | refine St.storeRow st 4 rfl ?_ | refine St.storeRow st 5 rfl ?_ | refine St.storeRow st 6 rfl ?_ | fail); (try clear st); intro w st; simp only [List.set, setsL] at st)
          | ((with_reducible apply exr4); case h => first | exact St.rowAt st 0 rfl rfl | exact St.rowAt st 1 rfl rfl | exact St.rowAt st 2 rfl rfl | exact St.rowAt st 3 rfl rfl | exact St.rowAt st 4 rfl rfl | exact St.rowAt st 5 rfl rfl | exact St.rowAt st 6 rfl rfl | fail)
          | ((with_reducible apply exr5); case h => first | exact St.rowAt st 0 rfl rfl | exact St.rowAt st 1 rfl rfl | exact St.rowAt st 2 rfl rfl | exact St.rowAt st 3 rfl rfl | exact St.rowAt st 4 rfl rfl | exact St.rowAt st 5 rfl rfl | exact St.rowAt st 6 rfl rfl | fail)
          | ((with_reducible apply exr6); case h => first | exact St.rowAt st 0 rfl rfl | exact St.rowAt st 1 rfl rfl | exact St.rowAt st 2 rfl rfl | exact St.rowAt st 3 rfl rfl | exact St.rowAt st 4 rfl rfl | exact St.rowAt st 5 rfl rfl | exact St.rowAt st 6 rfl rfl | fail)
          | with_reducible refine LetI.id (by omega) (by omega) ?_
          | fail
        refine Br.nay rfl ?_
        repeat' first
          | (with_reducible refine St.alloc st ?_; (try clear st); intro b w st)
          | with_reducible refine sz_and (by (repeat rw [ByteArray.size_append]); omega) ?_
          | (with_reducible apply ex0c; case h => first | exact St.cell st 0 rfl rfl | exact St.cell st 1 rfl rfl | exact St.cell st 2 rfl rfl | exact St.cell st 3 rfl rfl | exact St.cell st 4 rfl rfl | exact St.cell st 5 rfl rfl | exact St.cell st 6 rfl rfl | fail)
          | (with_reducible apply ex1c; case h => first | exact St.cell st 0 rfl rfl | exact St.cell st 1 rfl rfl | exact St.cell st 2 rfl rfl | exact St.cell st 3 rfl rfl | exact St.cell st 4 rfl rfl | exact St.cell st 5 rfl rfl | exact St.cell st 6 rfl rfl | fail)
          | (with_reducible apply ex3c; case h => first | exact St.cell st 0 rfl rfl | exact St.cell st 1 rfl rfl | exact St.cell st 2 rfl rfl | exact St.cell st 3 rfl rfl | exact St.cell st 4 rfl rfl | exact St.cell st 5 rfl rfl | exact St.cell st 6 rfl rfl | fail)
          | (with_reducible apply ex0r; case h => first | exact St.rows st 0 rfl | exact St.rows st 1 rfl | exact St.rows st 2 rfl | exact St.rows st 3 rfl | exact St.rows st 4 rfl | exact St.rows st 5 rfl | exact St.rows st 6 rfl | fail)
          | (with_reducible apply exr2; case h => first | exact St.rows st 0 rfl | exact St.rows st 1 rfl | exact St.rows st 2 rfl | exact St.rows st 3 rfl | exact St.rows st 4 rfl | exact St.rows st 5 rfl | exact St.rows st 6 rfl | fail)
          | (with_reducible apply exr3; case h => first | exact St.rows st 0 rfl | exact St.rows st 1 rfl | exact St.rows st 2 rfl | exact St.rows st 3 rfl | exact St.rows st 4 rfl | exact St.rows st 5 rfl | exact St.rows st 6 rfl | fail)
          | (with_reducible apply exr4; case h => first | exact St.rows st 0 rfl | exact St.rows st 1 rfl | exact St.rows st 2 rfl | exact St.rows st 3 rfl | exact St.rows st 4 rfl | exact St.rows st 5 rfl | exact St.rows st 6 rfl | fail)
          | (with_reducible apply exr5; case h => first | exact St.rows st 0 rfl | exact St.rows st 1 rfl | exact St.rows st 2 rfl | exact St.rows st 3 rfl | exact St.rows st 4 rfl | exact St.rows st 5 rfl | exact St.rows st 6 rfl | fail)
          | (with_reducible apply exr6; case h => first | exact St.rows st 0 rfl | exact St.rows st 1 rfl | exact St.rows st 2 rfl | exact St.rows st 3 rfl | exact St.rows st 4 rfl | exact St.rows st 5 rfl | exact St.rows st 6 rfl | fail)
          | (with_reducible apply exWr; case h => first | exact St.wr st 0 rfl rfl | exact St.wr st 1 rfl rfl | exact St.wr st 2 rfl rfl | exact St.wr st 3 rfl rfl | exact St.wr st 4 rfl rfl | exact St.wr st 5 rfl rfl | exact St.wr st 6 rfl rfl | fail)
          | (with_reducible apply exWrRow; case h => first | exact St.wrRow st 0 rfl rfl rfl | exact St.wrRow st 1 rfl rfl rfl | exact St.wrRow st 2 rfl rfl rfl | exact St.wrRow st 3 rfl rfl rfl | exact St.wrRow st 4 rfl rfl rfl | exact St.wrRow st 5 rfl rfl rfl | exact St.wrRow st 6 rfl rfl rfl | fail)
          | (with_reducible refine LetW.cell ?_; (first | refine St.store st 0 rfl ?_ | refine St.store st 1 rfl ?_ | refine St.store st 2 rfl ?_ | refine St.store st 3 rfl ?_ | refine St.store st 4 rfl ?_ | refine St.store st 5 rfl ?_ | refine St.store st 6 rfl ?_ | fail); (try clear st); intro w st; simp only [List.set] at st)
          | (with_reducible refine LetW.rows ?_; (first | refine St.storeRow st 0 rfl ?_ | refine St.storeRow st 1 rfl ?_ | refine St.storeRow st 2 rfl ?_ | refine St.storeRow st 3 rfl ?_ | refine St.storeRow st 4 rfl ?_ | refine St.storeRow st 5 rfl ?_ | refine St.storeRow st 6 rfl ?_ | fail); (try clear st); intro w st; simp only [List.set, setsL] at st)
          | ((with_reducible apply exr4); case h => first | exact St.rowAt st 0 rfl rfl | exact St.rowAt st 1 rfl rfl | exact St.rowAt st 2 rfl rfl | exact St.rowAt st 3 rfl rfl | exact St.rowAt st 4 rfl rfl | exact St.rowAt st 5 rfl rfl | exact St.rowAt st 6 rfl rfl | fail)
          | ((with_reducible apply exr5); case h => first | exact St.rowAt st 0 rfl rfl | exact St.rowAt st 1 rfl rfl | exact St.rowAt st 2 rfl rfl | exact St.rowAt st 3 rfl rfl | exact St.rowAt st 4 rfl rfl | exact St.rowAt st 5 rfl rfl | exact St.rowAt st 6 rfl rfl | fail)
          | ((with_reducible apply exr6); case h => first | exact St.rowAt st 0 rfl rfl | exact St.rowAt st 1 rfl rfl | exact St.rowAt st 2 rfl rfl | exact St.rowAt st 3 rfl rfl | exact St.rowAt st 4 rfl rfl | exact St.rowAt st 5 rfl rfl | exact St.rowAt st 6 rfl rfl | fail)
          | with_reducible refine LetI.id (by omega) (by omega) ?_
          | fail
        replace st : St No w0 w [_, _, _, _, _, _] := st.pick [1, 2, 3, 4, 5, 6] rfl (by decide)
        rw [← c3] at st
        exact ⟨_, by omega, q + 1, p, k, by simp, rfl, by omega, st⟩
    · obtain rfl : i = rn := by omega
      obtain ⟨f1, f2, f3, f4⟩ := step_end hs0 (r := r) hrd
      have hok := stS_ok hs0 (i * wn)
      have c6 := stR_ok hr hs0 (i * wn)
      refine Tr.go (rtext_tr br _ c6 (by have := f2.1; have : (stR r s0 (i * wn)).total = s0.total := by { unfold stR; rw [if_neg (by omega)] }; omega) p k) st 0 1 rfl rfl (by decide) (fun _ hg => hg) ?_
      clear st
      intro w st
      simp only [List.set] at st
      rw [f3, decide_eq_true f2]
      refine ⟨_, _, rfl, ?_⟩
      repeat' first
        | (with_reducible refine St.alloc st ?_; (try clear st); intro b w st)
        | with_reducible refine sz_and (by (repeat rw [ByteArray.size_append]); omega) ?_
        | (refine Tu.go (sdone_tu _ _ pp kk hok) st 0 rfl (fun _ hg => hg) ?_; (try clear st); intro w st; simp only [List.set] at st; refine ⟨_, rfl, ?_⟩)
        | (refine Tu.go (sdone_tu _ _ pp kk hok) st 1 rfl (fun _ hg => hg) ?_; (try clear st); intro w st; simp only [List.set] at st; refine ⟨_, rfl, ?_⟩)
        | (refine Tu.go (sdone_tu _ _ pp kk hok) st 2 rfl (fun _ hg => hg) ?_; (try clear st); intro w st; simp only [List.set] at st; refine ⟨_, rfl, ?_⟩)
        | (refine Tu.go (sdone_tu _ _ pp kk hok) st 3 rfl (fun _ hg => hg) ?_; (try clear st); intro w st; simp only [List.set] at st; refine ⟨_, rfl, ?_⟩)
        | (refine Tu.go (sdone_tu _ _ pp kk hok) st 4 rfl (fun _ hg => hg) ?_; (try clear st); intro w st; simp only [List.set] at st; refine ⟨_, rfl, ?_⟩)
        | (refine Tu.go (sdone_tu _ _ pp kk hok) st 5 rfl (fun _ hg => hg) ?_; (try clear st); intro w st; simp only [List.set] at st; refine ⟨_, rfl, ?_⟩)
        | (with_reducible apply ex0c; case h => first | exact St.cell st 0 rfl rfl | exact St.cell st 1 rfl rfl | exact St.cell st 2 rfl rfl | exact St.cell st 3 rfl rfl | exact St.cell st 4 rfl rfl | exact St.cell st 5 rfl rfl | fail)
        | (with_reducible apply ex1c; case h => first | exact St.cell st 0 rfl rfl | exact St.cell st 1 rfl rfl | exact St.cell st 2 rfl rfl | exact St.cell st 3 rfl rfl | exact St.cell st 4 rfl rfl | exact St.cell st 5 rfl rfl | fail)
        | (with_reducible apply ex3c; case h => first | exact St.cell st 0 rfl rfl | exact St.cell st 1 rfl rfl | exact St.cell st 2 rfl rfl | exact St.cell st 3 rfl rfl | exact St.cell st 4 rfl rfl | exact St.cell st 5 rfl rfl | fail)
        | (with_reducible apply ex0r; case h => first | exact St.rows st 0 rfl | exact St.rows st 1 rfl | exact St.rows st 2 rfl | exact St.rows st 3 rfl | exact St.rows st 4 rfl | exact St.rows st 5 rfl | fail)
        | (with_reducible apply exr2; case h => first | exact St.rows st 0 rfl | exact St.rows st 1 rfl | exact St.rows st 2 rfl | exact St.rows st 3 rfl | exact St.rows st 4 rfl | exact St.rows st 5 rfl | fail)
        | (with_reducible apply exr3; case h => first | exact St.rows st 0 rfl | exact St.rows st 1 rfl | exact St.rows st 2 rfl | exact St.rows st 3 rfl | exact St.rows st 4 rfl | exact St.rows st 5 rfl | fail)
        | (with_reducible apply exr4; case h => first | exact St.rows st 0 rfl | exact St.rows st 1 rfl | exact St.rows st 2 rfl | exact St.rows st 3 rfl | exact St.rows st 4 rfl | exact St.rows st 5 rfl | fail)
        | (with_reducible apply exr5; case h => first | exact St.rows st 0 rfl | exact St.rows st 1 rfl | exact St.rows st 2 rfl | exact St.rows st 3 rfl | exact St.rows st 4 rfl | exact St.rows st 5 rfl | fail)
        | (with_reducible apply exr6; case h => first | exact St.rows st 0 rfl | exact St.rows st 1 rfl | exact St.rows st 2 rfl | exact St.rows st 3 rfl | exact St.rows st 4 rfl | exact St.rows st 5 rfl | fail)
        | (with_reducible apply exWr; case h => first | exact St.wr st 0 rfl rfl | exact St.wr st 1 rfl rfl | exact St.wr st 2 rfl rfl | exact St.wr st 3 rfl rfl | exact St.wr st 4 rfl rfl | exact St.wr st 5 rfl rfl | fail)
        | (with_reducible apply exWrRow; case h => first | exact St.wrRow st 0 rfl rfl rfl | exact St.wrRow st 1 rfl rfl rfl | exact St.wrRow st 2 rfl rfl rfl | exact St.wrRow st 3 rfl rfl rfl | exact St.wrRow st 4 rfl rfl rfl | exact St.wrRow st 5 rfl rfl rfl | fail)
        | (with_reducible refine LetW.cell ?_; (first | refine St.store st 0 rfl ?_ | refine St.store st 1 rfl ?_ | refine St.store st 2 rfl ?_ | refine St.store st 3 rfl ?_ | refine St.store st 4 rfl ?_ | refine St.store st 5 rfl ?_ | fail); (try clear st); intro w st; simp only [List.set] at st)
        | (with_reducible refine LetW.rows ?_; (first | refine St.storeRow st 0 rfl ?_ | refine St.storeRow st 1 rfl ?_ | refine St.storeRow st 2 rfl ?_ | refine St.storeRow st 3 rfl ?_ | refine St.storeRow st 4 rfl ?_ | refine St.storeRow st 5 rfl ?_ | fail); (try clear st); intro w st; simp only [List.set, setsL] at st)
        | ((with_reducible apply exr4); case h => first | exact St.rowAt st 0 rfl rfl | exact St.rowAt st 1 rfl rfl | exact St.rowAt st 2 rfl rfl | exact St.rowAt st 3 rfl rfl | exact St.rowAt st 4 rfl rfl | exact St.rowAt st 5 rfl rfl | fail)
        | ((with_reducible apply exr5); case h => first | exact St.rowAt st 0 rfl rfl | exact St.rowAt st 1 rfl rfl | exact St.rowAt st 2 rfl rfl | exact St.rowAt st 3 rfl rfl | exact St.rowAt st 4 rfl rfl | exact St.rowAt st 5 rfl rfl | fail)
        | ((with_reducible apply exr6); case h => first | exact St.rowAt st 0 rfl rfl | exact St.rowAt st 1 rfl rfl | exact St.rowAt st 2 rfl rfl | exact St.rowAt st 3 rfl rfl | exact St.rowAt st 4 rfl rfl | exact St.rowAt st 5 rfl rfl | fail)
        | with_reducible refine LetI.id (by omega) (by omega) ?_
        | fail
      rw [decide_eq_true f1]
      refine Br.not (Br.sure rfl ?_)
      refine Br.not (Br.sure rfl ?_)
      refine ⟨⟨by omega, by omega⟩, _, hct 4 rfl st, ?_⟩
      rw [htxt]
      refine Br.not (Br.sure (by simp) (LetI.id (by omega) (by omega) ?_))
      exact ⟨_, by omega, t + 1, stR r s0 (i * wn), p, k, by simp, rfl, by omega, c6, by rw [f4, hsid]; omega, fun h => by rw [f4, hsid]; omega, st.pick [0, 1, 4, 5] rfl (by decide)⟩
  · have ht2 : t = 2 := by omega
    have hid4 := hid2 ht2
    have htk : takeR r ⟨3, 0, 1, []⟩ = r := by
      unfold takeR; rw [if_neg (fun hm => ?_)]
      have := hm.1
      show False
      have : max r.id 1 ≤ 3 := this
      omega
    refine Tk.go (rtake_tk br r hr p k ⟨3, 0, 1, []⟩ (by decide)) st ?_
    clear st
    rintro _ _ w ⟨rfl, p', k', rfl⟩ st
    rw [htk]
    refine ⟨_, _, rfl, ?_⟩
    refine Br.eqi (fun _ => ?_) (fun h => absurd hid4 h)
    repeat' first
      | (with_reducible refine St.alloc st ?_; (try clear st); intro b w st)
      | with_reducible refine sz_and (by (repeat rw [ByteArray.size_append]); omega) ?_
      | (refine Pu.go (gone_pu) st ?_; (try clear st); intro w st; refine ⟨_, rfl, ?_⟩)
      | (with_reducible apply ex0c; case h => first | exact St.cell st 0 rfl rfl | exact St.cell st 1 rfl rfl | exact St.cell st 2 rfl rfl | exact St.cell st 3 rfl rfl | fail)
      | (with_reducible apply ex1c; case h => first | exact St.cell st 0 rfl rfl | exact St.cell st 1 rfl rfl | exact St.cell st 2 rfl rfl | exact St.cell st 3 rfl rfl | fail)
      | (with_reducible apply ex3c; case h => first | exact St.cell st 0 rfl rfl | exact St.cell st 1 rfl rfl | exact St.cell st 2 rfl rfl | exact St.cell st 3 rfl rfl | fail)
      | (with_reducible apply ex0r; case h => first | exact St.rows st 0 rfl | exact St.rows st 1 rfl | exact St.rows st 2 rfl | exact St.rows st 3 rfl | fail)
      | (with_reducible apply exr2; case h => first | exact St.rows st 0 rfl | exact St.rows st 1 rfl | exact St.rows st 2 rfl | exact St.rows st 3 rfl | fail)
      | (with_reducible apply exr3; case h => first | exact St.rows st 0 rfl | exact St.rows st 1 rfl | exact St.rows st 2 rfl | exact St.rows st 3 rfl | fail)
      | (with_reducible apply exr4; case h => first | exact St.rows st 0 rfl | exact St.rows st 1 rfl | exact St.rows st 2 rfl | exact St.rows st 3 rfl | fail)
      | (with_reducible apply exr5; case h => first | exact St.rows st 0 rfl | exact St.rows st 1 rfl | exact St.rows st 2 rfl | exact St.rows st 3 rfl | fail)
      | (with_reducible apply exr6; case h => first | exact St.rows st 0 rfl | exact St.rows st 1 rfl | exact St.rows st 2 rfl | exact St.rows st 3 rfl | fail)
      | (with_reducible apply exWr; case h => first | exact St.wr st 0 rfl rfl | exact St.wr st 1 rfl rfl | exact St.wr st 2 rfl rfl | exact St.wr st 3 rfl rfl | fail)
      | (with_reducible apply exWrRow; case h => first | exact St.wrRow st 0 rfl rfl rfl | exact St.wrRow st 1 rfl rfl rfl | exact St.wrRow st 2 rfl rfl rfl | exact St.wrRow st 3 rfl rfl rfl | fail)
      | (with_reducible refine LetW.cell ?_; (first | refine St.store st 0 rfl ?_ | refine St.store st 1 rfl ?_ | refine St.store st 2 rfl ?_ | refine St.store st 3 rfl ?_ | fail); (try clear st); intro w st; simp only [List.set] at st)
      | (with_reducible refine LetW.rows ?_; (first | refine St.storeRow st 0 rfl ?_ | refine St.storeRow st 1 rfl ?_ | refine St.storeRow st 2 rfl ?_ | refine St.storeRow st 3 rfl ?_ | fail); (try clear st); intro w st; simp only [List.set, setsL] at st)
      | ((with_reducible apply exr4); case h => first | exact St.rowAt st 0 rfl rfl | exact St.rowAt st 1 rfl rfl | exact St.rowAt st 2 rfl rfl | exact St.rowAt st 3 rfl rfl | fail)
      | ((with_reducible apply exr5); case h => first | exact St.rowAt st 0 rfl rfl | exact St.rowAt st 1 rfl rfl | exact St.rowAt st 2 rfl rfl | exact St.rowAt st 3 rfl rfl | fail)
      | ((with_reducible apply exr6); case h => first | exact St.rowAt st 0 rfl rfl | exact St.rowAt st 1 rfl rfl | exact St.rowAt st 2 rfl rfl | exact St.rowAt st 3 rfl rfl | fail)
      | with_reducible refine LetI.id (by omega) (by omega) ?_
      | fail
    exact ⟨rfl, st.kp⟩
end Go.Proofs.Ytdiejbojobbboaa
