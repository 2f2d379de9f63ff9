/- The law BucketsFew: it returns true. -/
import Derived.Test.YtmhdplflflgbkaaB
import Derived.Test.YtmhdplflflgbkaaF
import Derived.Test.YtmhdplflflgbkaaV7
namespace Go.Proofs.Ytmhdplflflgbkaa
open Go.Vc

theorem intInfo : (Try.prog.info? 3).map (fun i => (i.zero, i.size, i.bytes)) = some (some (.int .i64 0), 1, 8) := by kernel_rfl

def Waits (w : World) (p : Option Addr) (n : Nat) : Prop := ∀ i : Nat, i < n → ∃ (a : Addr) (d : Int), p = some a ∧ w.cell? (a.add (i * 1)) = some (.int .u8 d) ∧ 0 ≤ d ∧ d ≤ 255

structure FewAt (w : World) (b : Nat) (cN kN : Int) (n : Nat) (k : Nat) (vs : List Value) (w' : World) (x : Bk) (t : Int) (bb : Bool) (v : Value) (i : Nat) (ts : List Int) : Prop where
  vals : vs = [.int .i64 t, .bool bb, v, .int .i64 i]
  le : i ≤ n
  left : k = n - i
  still : x.still t
  c : x.c = cN
  r : x.r = kN
  t0 : 0 ≤ t
  t1 : t ≤ 255 * i
  blk : Blk w' b 41 x.cells
  own : w'.ownsRow w.heap.size 3 1 v ts.length (ts.map (Value.int .i64))
  few : Few cN kN x ts
  len : ts.length ≤ i
  kp : Kp No w w'

theorem tick_id {x : Bk} {t u : Int} (h : x.still t) (h1 : t ≤ u) (h2 : u ≤ 1099511627776) : x.go u = x.bring u := by
  unfold Bk.go
  have := h.2.1
  rw [show tick x.n u = u by unfold tick; omega]

theorem take_pos {y : Bk} {t : Int} (h : y.still t) (ht : t ≤ 1099511627776) (h0 : 0 < y.l) : y.take t = (true, y.less) := by
  unfold Bk.take
  rw [tick_id h (Int.le_refl _) ht, Bk.still_bring h]
  exact if_neg (by omega)
theorem take_none {y : Bk} {t : Int} (h : y.still t) (ht : t ≤ 1099511627776) (h0 : ¬ 0 < y.l) : y.take t = (false, y) := by
  unfold Bk.take
  rw [tick_id h (Int.le_refl _) ht, Bk.still_bring h]
  have := h.1.2.2.2.2.1
  exact if_pos (by omega)

theorem lawFew_ca (c r : Int) (p : Option Addr) (n m : Nat) (w : World) (hc : 0 ≤ c ∧ c ≤ 255) (hr : 0 ≤ r ∧ r ≤ 255) (hl : Waits w p n) :
    Ca Try.prog 3 #[.int .u8 c, .int .u8 r, .slice p n m] w fun e w' => e = .returned (.bool true) ∧ Kp No w w' := by
  have fin : ∀ w7, Kp No w w7 → Ca Try.prog 6 #[] w7 fun e w' => ∃ b, e = .returned (.bool b) ∧ (Ending.returned (.bool b) = .returned (.bool true) ∧ Kp No w w') := by
    intro w7 hk
    refine (filled_ca w7).mono ?_
    rintro e w8 ⟨rfl, hk2⟩
    exact ⟨true, rfl, rfl, hk.trans hk2⟩
  refine lawFew_ok _ _ _ _ _ _ _ (Br.intro (fun _ => fin w (Kp.refl _ _)) fun hn => ?_)
  have hn : n ≤ 150 := by simp at hn; omega
  refine LetI.id (by omega) (by omega) ⟨by omega, LetI.rem hc.1 (LetI.id (by omega) (by omega) ⟨by omega, LetI.rem hr.1 (LetI.id (by omega) (by omega) ?_)⟩)⟩
  generalize hcN : c % 17 = cN
  generalize hkN : 1 + r % 64 = kN
  have ho : okArgs cN kN := by unfold okArgs; omega
  refine (new_good cN kN w ho).mono ?_
  rintro e w15 ⟨b, rfl, hb, hB1, hk1⟩
  have start := newBk_ok ho
  have ho1 : 0 ≤ cN ∧ cN ≤ 16 ∧ 1 ≤ kN ∧ kN ≤ 64 := by omega
  have hmul : 0 ≤ cN * kN ∧ cN * kN ≤ 1024 := by
    refine ⟨Int.mul_nonneg (by omega) (by omega), ?_⟩
    have h1 := Int.mul_le_mul (show cN ≤ 16 by omega) (show kN ≤ 64 by omega) (by omega) (by omega)
    omega
  obtain ⟨i0, hi0, hz0, hs0, hb0⟩ := info_at intInfo
  refine ⟨_, _, rfl, Br.neg (by decide) ⟨fun k vs w' => ∃ x t bb v i ts, FewAt w b cN kN n k vs w' x t bb v i ts,
    ⟨n, newBk cN kN, 0, false, .slice none 0 0, 0, [], ⟨rfl, by omega, rfl, ⟨start, rfl, by unfold newBk; dsimp only; omega, fun _ => rfl⟩, rfl, rfl, by omega, by omega, hB1, owns_nil _ _ _ _, Few.nil _ _ _, by simp, hk1⟩⟩, ?_⟩⟩
  rintro n20 b21 p22 k23 k24 n25 k26 w27 ⟨x, t, bb, v, i, ts, h⟩
  obtain ⟨hv, hi, rfl, hst, rfl, rfl, ht0, ht1, hB, hown, hfew, hlen, hk⟩ := h
  simp only [List.cons.injEq, Value.bool.injEq, Value.int.injEq, true_and, and_true] at hv
  obtain ⟨rfl, rfl, rfl, rfl⟩ := hv
  have hsz := hk.size
  have hbl := hB.lt
  refine Br.intro (fun hin => ?_) (fun hin => ?_)
  · have hin : i < n := by simpa using hin
    obtain ⟨a, d, rfl, hcell, hd0, hd1⟩ := hl i hin
    refine ⟨⟨by omega, by omega⟩, d, hk.cell hcell (not_no _), LetI.id (by omega) (by omega) (LetI.id (by omega) (by omega) ?_)⟩
    -- the tick
    have htick : x.go (n20 + d) = x.bring (n20 + d) := tick_id hst (by omega) (by omega)
    have hbr := Bk.bring_still hst.1 (t := n20 + d) (by have := hst.2.1; omega) (by omega)
    refine (left_ca b x (n20 + d) w27 hst.1 hB).mono ?_
    rintro e w33 ⟨rfl, hB33, hk33⟩
    rw [htick] at hB33 ⊢
    generalize hy : x.bring (n20 + d) = y at *
    obtain ⟨hys, hyp, hyr, hyc⟩ := hbr
    have hok := hys.1
    obtain ⟨q1, q2, q3, q4, q5, q6, q7, q8, q9⟩ := hok
    have hown33 : w33.ownsRow w.heap.size 3 1 (.slice p22 k23 k24) ts.length (ts.map (Value.int .i64)) := owns_kp hown hk33 (fun g hg hgb => owns_ne hown hB (by decide) (hgb ▸ hg))
    have hfy : Few x.c x.r y ts := hfew.wait (by have := hys.2.1; have := hst.2.1; omega) (by have := hys.2.1; have := hst.2.1; omega)
    have hkw33 : Kp No w w33 := hk.new1 hk33 hb
    refine ⟨_, rfl, Br.neg (by simp; omega) (Br.neg (by simp; omega) ?_)⟩
    refine (take_ca b y (n20 + d) w33 hys.1 hB33).mono ?_
    rintro e w36 ⟨rfl, hB36, hk36⟩
    have hkw36 : Kp No w w36 := hkw33.new1 hk36 hb
    have hown36 : w36.ownsRow w.heap.size 3 1 (.slice p22 k23 k24) ts.length (ts.map (Value.int .i64)) := owns_kp hown33 hk36 (fun g hg hgb => owns_ne hown33 hB33 (by decide) (hgb ▸ hg))
    by_cases h0 : 0 < y.l
    · rw [take_pos hys (by omega) h0] at hB36 ⊢
      obtain ⟨hls, hlp⟩ := Bk.less_still hys h0
      refine ⟨true, rfl, Br.neg (by simp; omega) (Br.pos (by simp; omega) ?_)⟩
      refine (left_ca b y.less (n20 + d) w36 hls.1 hB36).mono ?_
      rintro e w39 ⟨rfl, hB39, hk39⟩
      have e1 : y.less.go (n20 + d) = y.less := by rw [tick_id hls (Int.le_refl _) (by omega), Bk.still_bring hls]
      rw [e1] at hB39 ⊢
      have hkw39 : Kp No w w39 := hkw36.new1 hk39 hb
      have hown39 : w39.ownsRow w.heap.size 3 1 (.slice p22 k23 k24) ts.length (ts.map (Value.int .i64)) := owns_kp hown36 hk39 (fun g hg hgb => owns_ne hown36 hB36 (by decide) (hgb ▸ hg))
      refine ⟨_, rfl, LetI.id (by omega) (by omega) (Br.neg (by simp [Bk.less]) (Br.pos (by simp; omega) ?_))⟩
      refine LetA.blk fun b42 w43 hb42 hB43 hk43 => ?_
      have hown43 := owns_kp hown39 hk43 (fun g _ => not_no g)
      have hb39 := hB39.lt
      have hs39 := hkw39.size
      have hk43w := hkw39.trans hk43
      have hs43 := hk43w.size
      refine RunsV.append (news := [.int .i64 (n20 + d)]) (m := 1) (a := ⟨b42, 0, none⟩) Try.underlying28 hi0 hz0 hs0 hb0 rfl (by omega) hown43 rfl ?_ (by simp [notAgg]) (by simp only [maxLen]; omega) (by omega) hs43 ?_
      · intro j u hu
        cases j with
        | zero => simp at hu; subst hu; exact hB43.at_ rfl
        | succ j => simp at hu
      · intro v' w45 ho45 hk45 hat
        obtain ⟨p46, c48, rfl, _⟩ := owns_form ho45
        have hB43b : Blk w43 b 41 y.less.cells := hB39.kp hk43 (not_no _)
        have hB45 : Blk w45 b 41 y.less.cells := hB43b.kp hk45 (owns_ne hown43 hB43b (by decide))
        have hk45w : Kp No w w45 := hk43w.step hk45 (fun g hg => .inr (owns_at hown43 hg).1)
        refine ⟨p46, _, c48, rfl, LetI.id (by omega) (by omega) ⟨n - (i + 1), by omega, y.less, n20 + d, b21, .slice p46 (ts.length + 1) c48, i + 1, ts ++ [n20 + d],
          ⟨by simp, by omega, rfl, hls, hyc, hyr, by omega, by omega, hB45, ?_, ?_, by simp; omega, hk45w⟩⟩⟩
        · simpa using ho45
        · have h3 := Bk.still_phi hls
          have h4 := Bk.still_phi hys
          rw [hyc, hyr] at h4
          have h5 := hfy.take (y := y.less) (by rw [hlp, hyr]) rfl h3.1 h4.2 (by have := hys.2.1; omega)
          rw [hys.2.1] at h5
          exact h5
    · rw [take_none hys (by omega) h0] at hB36 ⊢
      refine ⟨false, rfl, Br.neg (by simp; omega) (Br.neg (by simp; omega) (Br.neg (by simp; omega) ?_))⟩
      exact LetI.id (by omega) (by omega) ⟨n - (i + 1), by omega, y, n20 + d, b21, _, i + 1, ts,
        ⟨by simp, by omega, rfl, hys, hyc, hyr, by omega, by omega, hB36, hown36, hfy, by omega, hkw36⟩⟩
  · obtain ⟨p', c', hpe, hpos⟩ := owns_form hown
    simp only [Value.slice.injEq] at hpe
    obtain ⟨rfl, rfl, rfl⟩ := hpe
    have hts : ts.length ≤ 150 := by omega
    have cellOf : ∀ (j : Nat) (u : Int), ts[j]? = some u → ∃ g, p22 = some ⟨g, 0, none⟩ ∧ w27.cell? ⟨g, j, none⟩ = some (.int .i64 u) := by
      intro j u hu
      have hj : j < ts.length := by
        rcases Nat.lt_or_ge j ts.length with h' | h'
        · exact h'
        · rw [List.getElem?_eq_none h'] at hu; cases hu
      obtain ⟨g, rfl, _, _, hcs⟩ := hpos (by omega)
      exact ⟨g, rfl, hcs j _ (by simp [hu])⟩
    have addj : ∀ (g j : Nat), (⟨g, 0, none⟩ : Addr).add (j * 1) = ⟨g, j, none⟩ := by
      intro g j
      unfold Addr.add
      by_cases hj : j = 0
      · subst hj; rfl
      · rw [if_neg (by omega)]; simp
    refine ⟨fun k vs w' => ∃ (bb : Bool) (i : Nat), vs = [.bool bb, .int .i64 i] ∧ i ≤ ts.length ∧ k = ts.length - i ∧ w' = w27, ⟨ts.length, b21, 0, rfl, by omega, rfl, rfl⟩, ?_⟩
    rintro b66 n67 k68 w69 ⟨bb, i2, hv2, hi2, rfl, rfl⟩
    simp only [List.cons.injEq, Value.bool.injEq, Value.int.injEq, true_and, and_true] at hv2
    obtain ⟨rfl, rfl⟩ := hv2
    refine Br.intro (fun h1 => ?_) (fun h1 => ?_)
    · have h1 : i2 < ts.length := by simpa using h1
      refine ⟨fun k vs w' => ∃ (bb : Bool) (j : Nat), vs = [.bool bb, .int .i64 j] ∧ i2 ≤ j ∧ j ≤ ts.length ∧ k = ts.length - j ∧ w' = w69, ⟨ts.length - i2, b66, i2, rfl, by omega, by omega, rfl, rfl⟩, ?_⟩
      rintro b72 n73 k74 w75 ⟨bb, j, hv3, hij, hj, rfl, rfl⟩
      simp only [List.cons.injEq, Value.bool.injEq, Value.int.injEq, true_and, and_true] at hv3
      obtain ⟨rfl, rfl⟩ := hv3
      refine Br.intro (fun h2 => ?_) (fun h2 => ?_)
      · have h2 : j < ts.length := by simpa using h2
        have hui := List.getElem?_eq_getElem h1
        have huj := List.getElem?_eq_getElem h2
        generalize ts[i2] = ti at hui
        generalize ts[j] = tj at huj
        obtain ⟨g, rfl, hci⟩ := cellOf i2 ti hui
        obtain ⟨g', hg', hcj⟩ := cellOf j tj huj
        simp only [Option.some.injEq, Addr.mk.injEq, and_true] at hg'
        subst hg'
        have hwin := hfew.win i2 j ti tj hij hui huj
        have hli := hfew.low i2 ti hui
        have hlj := hfew.low j tj huj
        have hmo := hfew.mon i2 j ti tj hij hui huj
        have hxn := hst.2.1
        have hdiv : ((j : Int) - i2 + 1) ≤ x.c + (tj - ti) / x.r := by
          have e1 : (x.c * x.r + (tj - ti)) / x.r = x.c + (tj - ti) / x.r := by
            rw [Int.add_comm, Int.add_mul_ediv_right _ _ (by omega)]; omega
          rw [← e1]
          exact (Int.le_ediv_iff_mul_le (by omega)).2 hwin
        have hq := div_le (tj - ti) x.r (by omega) (by omega)
        refine LetI.id (by omega) (by omega) (LetI.id (by omega) (by omega) ⟨⟨by omega, by omega⟩, tj, ?_, ⟨by omega, by omega⟩, ti, ?_, ?_⟩)
        · rw [Int.toNat_natCast, addj]; exact hcj
        · rw [Int.toNat_natCast, addj]; exact hci
        · refine LetI.id (by omega) (by omega) ⟨by omega, LetI.quo (by omega) (by omega) (by omega) (LetI.id (by omega) (by omega) (Br.neg (by simp; omega) ?_))⟩
          exact LetI.id (by omega) (by omega) ⟨ts.length - (j + 1), by omega, b72, j + 1, by simp, by omega, by omega, rfl, rfl⟩
      · exact LetI.id (by omega) (by omega) ⟨ts.length - (i2 + 1), by omega, b72, i2 + 1, by simp, by omega, rfl, rfl⟩
    · refine LetI.id (by omega) (by omega) (LetI.id (by omega) (by omega) ?_)
      refine (left_ca b x (n20 + x.c * x.r) w69 hst.1 hB).mono ?_
      rintro e w92 ⟨rfl, hB92, hk92⟩
      have h3 : (x.go (n20 + x.c * x.r)).l = x.c := by
        rw [tick_id hst (by omega) (by omega)]
        exact Bk.full hst
      exact ⟨_, rfl, Br.pos (by simp [h3]) (fin _ (hk.new1 hk92 hb))⟩
end Go.Proofs.Ytmhdplflflgbkaa
