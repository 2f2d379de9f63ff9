/- Package backoff, in plain numbers. -/
namespace Go.Proofs.Ytffcgfhhlfbooaa

def topF (m : Int) : Int := max 0 (min m 64)
def gapF (t m : Int) : Int := if t < 1 then 0 else min (2 ^ (min (t - 1) 16).toNat) (topF m)
def lenF (m : Int) : Int := if m < 1 then 0 else if m < 2 then 1 else if m < 4 then 2 else if m < 8 then 3 else if m < 16 then 4 else if m < 32 then 5 else if m < 64 then 6 else 7
def sumF (t m : Int) : Int :=
  if t < 1 ∨ topF m = 0 then 0 else
    2 ^ (min (min t 1099511627776) (lenF (topF m))).toNat - 1 + (min t 1099511627776 - min (min t 1099511627776) (lenF (topF m))) * topF m
def addF (m : Int) : Nat → Int
  | 0 => 0
  | n + 1 => addF m n + gapF (n + 1) m

theorem topF_in (m : Int) : 0 ≤ topF m ∧ topF m ≤ 64 := by unfold topF; omega
theorem topF_topF (m : Int) : topF (topF m) = topF m := by unfold topF; omega
theorem gapF_top (t m : Int) : gapF t (topF m) = gapF t m := by unfold gapF; rw [topF_topF]
theorem addF_top (m : Int) (n : Nat) : addF (topF m) n = addF m n := by
  induction n with
  | zero => rfl
  | succ n ih => unfold addF; rw [ih, gapF_top]
theorem lenF_in (m : Int) : 0 ≤ lenF m ∧ lenF m ≤ 7 := by unfold lenF; split <;> (try split) <;> (try split) <;> (try split) <;> (try split) <;> (try split) <;> (try split) <;> omega
theorem pow16 {k : Nat} (h : 8 ≤ k) : (256 : Int) ≤ 2 ^ k := by
  obtain ⟨j, rfl⟩ := Nat.le.dest h
  rw [Int.pow_add]
  have : (0 : Int) < 2 ^ j := Int.pow_pos (by omega)
  omega
theorem gapF_big {t : Int} (h : 9 ≤ t) (m : Int) : gapF t m = topF m := by
  have := pow16 (k := (min (t - 1) 16).toNat) (by omega)
  have := topF_in m
  unfold gapF; rw [if_neg (by omega)]; omega
theorem small_all : ∀ M : Fin 65, ∀ n : Fin 9, addF (M.val : Int) n.val = (if n.val = 0 ∨ M.val = 0 then 0 else
    2 ^ (min (n.val : Int) (lenF M.val)).toNat - 1 + ((n.val : Int) - min (n.val : Int) (lenF M.val)) * (M.val : Int)) := by decide +kernel
theorem fin_of {M : Int} (h0 : 0 ≤ M) (h1 : M ≤ 64) : ∃ f : Fin 65, (f.val : Int) = M := ⟨⟨M.toNat, by omega⟩, by simp; omega⟩
theorem addF_small (m : Int) {n : Nat} (hn : n ≤ 8) : addF m n = sumF n m := by
  obtain ⟨f, hf⟩ := fin_of (topF_in m).1 (topF_in m).2
  have h := small_all f ⟨n, by omega⟩
  rw [← addF_top, ← hf, h]
  unfold sumF
  rw [← hf, show min (n : Int) 1099511627776 = n by omega]
  by_cases h0 : n = 0 ∨ f.val = 0
  · rw [if_pos h0, if_pos (by omega)]
  · rw [if_neg h0, if_neg (by omega)]
theorem eight_all : ∀ M : Fin 65, addF (M.val : Int) 8 = 2 ^ (lenF M.val).toNat - 1 + (8 - lenF M.val) * (M.val : Int) := by decide +kernel
theorem addF_eight (m : Int) : addF m 8 = 2 ^ (lenF (topF m)).toNat - 1 + (8 - lenF (topF m)) * topF m := by
  obtain ⟨f, hf⟩ := fin_of (topF_in m).1 (topF_in m).2
  have h := eight_all f
  rw [← addF_top, ← hf, h]
theorem sumF_big {t : Int} (h : 8 < t) (m : Int) : addF m 8 + (min t 1099511627776 - 8) * topF m = sumF t m := by
  rw [addF_eight]
  have hl := lenF_in (topF m)
  unfold sumF
  by_cases h0 : topF m = 0
  · rw [if_pos (.inr h0), h0]; simp [lenF]
  · rw [if_neg (by omega), show min (min t 1099511627776) (lenF (topF m)) = lenF (topF m) by omega, Int.sub_mul, Int.sub_mul, Int.sub_mul]; omega
theorem sumF_cap {t m : Int} : sumF (min t 1099511627776) m = sumF t m := by
  unfold sumF
  rw [show min (min t 1099511627776) 1099511627776 = min t 1099511627776 by omega]
  by_cases h0 : t < 1 ∨ topF m = 0
  · rw [if_pos (by omega), if_pos h0]
  · rw [if_neg (by omega), if_neg h0]
theorem sumF_none {t : Int} (h : t < 1) (m : Int) : sumF t m = 0 := by unfold sumF; rw [if_pos (.inl h)]
theorem gapF_in (t m : Int) : 0 ≤ gapF t m ∧ gapF t m ≤ 64 := by
  have := topF_in m
  have : (0 : Int) < 2 ^ (min (t - 1) 16).toNat := Int.pow_pos (by omega)
  unfold gapF; split <;> omega
theorem addF_in (m : Int) (n : Nat) : 0 ≤ addF m n ∧ addF m n ≤ 64 * n := by
  induction n with
  | zero => simp [addF]
  | succ n ih => have := gapF_in (n + 1) m; unfold addF; omega
/-- The law of BackoffSums. -/
theorem sums_small : ∀ M : Fin 65, ∀ n : Fin 10, 1 ≤ n.val → gapF n.val M.val ≤ gapF (n.val + 1) M.val ∧ gapF (n.val + 1) M.val ≤ M.val ∧
    addF M.val (n.val + 1) = addF M.val n.val + gapF (n.val + 1) M.val ∧ gapF n.val M.val ≤ addF M.val n.val ∧ (M.val ≤ gapF (n.val + 1) M.val ∨ gapF (n.val + 1) M.val = 2 * gapF n.val M.val) ∧
    ((M.val = 0) ↔ (gapF n.val M.val = 0)) := by decide +kernel
structure Good (t m : Int) : Prop where
  up : gapF t m ≤ gapF (t + 1) m
  le : gapF (t + 1) m ≤ topF m
  add : sumF (t + 1) m = sumF t m + gapF (t + 1) m
  ge : gapF t m ≤ sumF t m
  dbl : topF m ≤ gapF (t + 1) m ∨ gapF (t + 1) m = 2 * gapF t m
  nil : topF m = 0 ↔ gapF t m = 0
theorem good {t : Int} (h : 1 ≤ t) (h' : t < 1000000) (m : Int) : Good t m := by
  by_cases ht : t < 8
  · obtain ⟨n, rfl⟩ := Int.eq_ofNat_of_zero_le (show 0 ≤ t by omega)
    obtain ⟨f, hf⟩ := fin_of (topF_in m).1 (topF_in m).2
    have k := sums_small f ⟨n, by omega⟩ (by simp; omega)
    simp only [hf, gapF_top, addF_top] at k
    obtain ⟨k1, k2, k3, k4, k5, k6⟩ := k
    rw [addF_small m (by omega), addF_small m (by omega)] at k3
    rw [addF_small m (by omega)] at k4
    refine ⟨k1, k2, by simpa using k3, k4, k5, ?_⟩
    rw [← hf, ← k6]; omega
  · have t1 := sumF_big (t := t + 1) (by omega) m
    have g1 := gapF_big (t := t + 1) (by omega) m
    have hg := gapF_in t m
    have hm := topF_in m
    by_cases h8 : t = 8
    · subst h8
      have k := addF_small m (n := 8) (by omega)
      have hz : addF m 8 = addF m 7 + gapF 8 m := rfl
      have hn := addF_in m 7
      have k' : addF m 8 = sumF 8 m := k
      have e8 : gapF 8 m = topF m := by unfold gapF; rw [if_neg (by omega), show (2 : Int) ^ (min ((8 : Int) - 1) 16).toNat = 128 from by decide]; omega
      refine ⟨by omega, by omega, ?_, by omega, by omega, by omega⟩
      rw [← t1, k', g1, show (min ((8 : Int) + 1) 1099511627776 - 8) = 1 by omega]; omega
    · have t0 := sumF_big (t := t) (by omega) m
      have g0 := gapF_big (t := t) (by omega) m
      have hn := addF_in m 8
      rw [show min t 1099511627776 = t by omega] at t0
      rw [show min (t + 1) 1099511627776 = t + 1 by omega] at t1
      have e1 : (t + 1 - 8) * topF m = (t - 8) * topF m + topF m := by rw [show t + 1 - 8 = (t - 8) + 1 by omega, Int.add_mul]; omega
      have e2 : topF m ≤ (t - 8) * topF m := by
        have := Int.mul_le_mul_of_nonneg_right (show 1 ≤ t - 8 by omega) hm.1
        omega
      exact ⟨by omega, by omega, by omega, by omega, by omega, by omega⟩
end Go.Proofs.Ytffcgfhhlfbooaa
