/- The buckets, plainly: in any ticks no more are taken than there were and came. No program is named. -/
import Derived.Test.YtmhdplflflgbkaaA
namespace Go.Proofs.Ytmhdplflflgbkaa

/-- nothing more comes at this tick -/
def Bk.still (x : Bk) (t : Int) : Prop := x.ok ∧ x.n = t ∧ x.n - x.s < x.r ∧ (x.l = x.c → x.s = x.n)
def Bk.phi (x : Bk) : Int := if x.l = x.c then x.c * x.r else x.l * x.r + (x.n - x.s)

theorem Bk.phi_nonneg {x : Bk} (h : x.ok) : 0 ≤ x.phi ∧ x.phi ≤ x.c * x.r + (if x.l = x.c then 0 else x.n - x.s - x.r) := by
  obtain ⟨a, b, c, d, e, f, g, i, j⟩ := h
  have h1 := Int.mul_nonneg a (show 0 ≤ x.r by omega)
  have h2 := Int.mul_nonneg e (show 0 ≤ x.r by omega)
  unfold Bk.phi
  split
  · omega
  · have h3 : x.l + 1 ≤ x.c := by omega
    have h4 := Int.mul_le_mul_of_nonneg_right h3 (show 0 ≤ x.r by omega)
    rw [Int.add_mul, Int.one_mul] at h4
    omega
theorem Bk.still_phi {x : Bk} {t : Int} (h : x.still t) : 0 ≤ x.phi ∧ x.phi ≤ x.c * x.r := by
  have h1 := Bk.phi_nonneg h.1
  have h2 := h.2.2.1
  refine ⟨h1.1, ?_⟩
  have := h1.2
  split at this <;> omega

theorem Bk.still_bring {x : Bk} {t : Int} (h : x.still t) : x.bring t = x := by
  obtain ⟨⟨a, b, c, d, e, f, g, i, j⟩, hn, hs, hl⟩ := h
  have hq : (t - x.s) / x.r = 0 := Int.ediv_eq_zero_of_lt (by omega) (by omega)
  unfold Bk.bring
  dsimp only
  rw [hq]
  by_cases hc : x.c ≤ x.l + 0
  · rw [if_pos hc]
    have hlc : x.l = x.c := by omega
    have hsn := hl hlc
    cases x; dsimp only at *; congr 1 <;> omega
  · rw [if_neg hc]
    cases x; dsimp only at *; congr 1 <;> omega
theorem Bk.bring_still {x : Bk} (h : x.ok) {t : Int} (h1 : x.n ≤ t) (h2 : t ≤ 1099511627776) : (x.bring t).still t ∧ (x.bring t).phi ≤ x.phi + (t - x.n) ∧ (x.bring t).r = x.r ∧ (x.bring t).c = x.c := by
  have hok := Bk.bring_ok h t h1 h2
  obtain ⟨a, b, c, d, e, f, g, i, j⟩ := h
  have hd := div_le (t - x.s) x.r (by omega) c
  by_cases hc : x.c ≤ x.l + (t - x.s) / x.r
  · have e1 : x.bring t = ⟨x.c, x.r, x.c, t, t⟩ := if_pos hc
    rw [e1] at hok ⊢
    refine ⟨⟨hok, rfl, by dsimp only; omega, fun _ => rfl⟩, ?_, rfl, rfl⟩
    have : Bk.phi ⟨x.c, x.r, x.c, t, t⟩ = x.c * x.r := if_pos rfl
    rw [this]
    unfold Bk.phi
    split
    · omega
    · have h3 : x.c - x.l ≤ (t - x.s) / x.r := by omega
      have h4 := Int.mul_le_mul_of_nonneg_right h3 (show 0 ≤ x.r by omega)
      rw [Int.sub_mul] at h4
      omega
  · have e1 : x.bring t = ⟨x.c, x.r, x.l + (t - x.s) / x.r, x.s + (t - x.s) / x.r * x.r, t⟩ := if_neg hc
    rw [e1] at hok ⊢
    refine ⟨⟨hok, rfl, by dsimp only; omega, fun h => by dsimp only at h; omega⟩, ?_, rfl, rfl⟩
    have h5 : Bk.phi ⟨x.c, x.r, x.l + (t - x.s) / x.r, x.s + (t - x.s) / x.r * x.r, t⟩ = (x.l + (t - x.s) / x.r) * x.r + (t - (x.s + (t - x.s) / x.r * x.r)) := if_neg (by dsimp only; omega)
    have h6 : x.phi = x.l * x.r + (x.n - x.s) := if_neg (by omega)
    rw [h5, h6, Int.add_mul]
    omega
def Bk.less (x : Bk) : Bk := ⟨x.c, x.r, x.l - 1, x.s, x.n⟩
theorem Bk.less_still {x : Bk} {t : Int} (h : x.still t) (hl : 0 < x.l) : x.less.still t ∧ x.less.phi = x.phi - x.r := by
  obtain ⟨⟨a, b, c, d, e, f, g, i, j⟩, hn, hs, hf⟩ := h
  refine ⟨⟨⟨a, b, c, d, by unfold Bk.less; dsimp only; omega, by unfold Bk.less; dsimp only; omega, g, i, j⟩, hn, hs, fun h => by unfold Bk.less at h; dsimp only at h; omega⟩, ?_⟩
  have h1 : x.less.phi = (x.l - 1) * x.r + (x.n - x.s) := if_neg (by unfold Bk.less; dsimp only; omega)
  rw [h1, Int.sub_mul, Int.one_mul]
  unfold Bk.phi
  split
  · rename_i h2
    have := hf h2
    rw [h2]; omega
  · omega
theorem Bk.full {x : Bk} {t : Int} (h : x.still t) : (x.bring (t + x.c * x.r)).l = x.c := by
  obtain ⟨⟨a, b, c, d, e, f, g, i, j⟩, hn, hs, hf⟩ := h
  have h1 : x.c ≤ (t + x.c * x.r - x.s) / x.r := by
    apply (Int.le_ediv_iff_mul_le (by omega)).2
    omega
  unfold Bk.bring
  dsimp only
  rw [if_pos (by omega)]

/-- what holds of the ticks at which tokens were taken -/
structure Few (n k : Int) (x : Bk) (ts : List Int) : Prop where
  pot : ∀ (i : Nat) (t : Int), ts[i]? = some t → ((ts.length : Int) - i) * k + x.phi ≤ n * k + (x.n - t)
  win : ∀ (i j : Nat) (t u : Int), i ≤ j → ts[i]? = some t → ts[j]? = some u → ((j : Int) - i + 1) * k ≤ n * k + (u - t)
  low : ∀ (i : Nat) (t : Int), ts[i]? = some t → 0 ≤ t ∧ t ≤ x.n
  mon : ∀ (i j : Nat) (t u : Int), i ≤ j → ts[i]? = some t → ts[j]? = some u → t ≤ u
theorem Few.nil (n k : Int) (x : Bk) : Few n k x [] := ⟨fun _ _ h => by simp at h, fun _ _ _ _ _ h => by simp at h, fun _ _ h => by simp at h, fun _ _ _ _ _ h => by simp at h⟩
theorem Few.wait {n k : Int} {x y : Bk} {ts : List Int} (h : Few n k x ts) (hp : y.phi ≤ x.phi + (y.n - x.n)) (hn : x.n ≤ y.n) : Few n k y ts :=
  ⟨fun i t ht => by have := h.pot i t ht; omega, h.win, fun i t ht => by have := h.low i t ht; omega, h.mon⟩
theorem at_snoc {ts : List Int} {v t : Int} {i : Nat} (h : (ts ++ [v])[i]? = some t) : (i < ts.length ∧ ts[i]? = some t) ∨ (i = ts.length ∧ t = v) := by
  rcases Nat.lt_or_ge i ts.length with hi | hi
  · rw [List.getElem?_append_left hi] at h
    exact .inl ⟨hi, h⟩
  · rw [List.getElem?_append_right hi] at h
    have hi' : i = ts.length := by
      rcases Nat.lt_or_ge ts.length i with h' | h'
      · rw [List.getElem?_eq_none (by simp; omega)] at h; cases h
      · omega
    subst hi'
    simp at h
    exact .inr ⟨rfl, h.symm⟩
theorem Few.take {n k : Int} {x y : Bk} {ts : List Int} (h : Few n k x ts) (hp : y.phi = x.phi - k) (hn : y.n = x.n) (h0 : 0 ≤ y.phi) (h1 : x.phi ≤ n * k) (hx : 0 ≤ x.n) : Few n k y (ts ++ [x.n]) := by
  have key : ∀ (i : Nat) (t : Int), (ts ++ [x.n])[i]? = some t → (((ts ++ [x.n]).length : Int) - i) * k + y.phi ≤ n * k + (y.n - t) := by
    intro i t ht
    rw [List.length_append, List.length_singleton]
    rcases Nat.lt_or_ge i ts.length with hi | hi
    · rw [List.getElem?_append_left hi] at ht
      have := h.pot i t ht
      have e : (((ts.length + 1 : Nat) : Int) - i) * k = ((ts.length : Int) - i) * k + k := by
        rw [show (((ts.length + 1 : Nat) : Int) - i) = ((ts.length : Int) - i) + 1 by omega, Int.add_mul, Int.one_mul]
      omega
    · rw [List.getElem?_append_right hi] at ht
      have hi' : i = ts.length := by
        rcases Nat.lt_or_ge ts.length i with h' | h'
        · rw [List.getElem?_eq_none (by simp; omega)] at ht; cases ht
        · omega
      subst hi'
      simp at ht
      have e : (((ts.length + 1 : Nat) : Int) - ts.length) * k = k := by
        rw [show (((ts.length + 1 : Nat) : Int) - ts.length) = 1 by omega, Int.one_mul]
      omega
  have low : ∀ (i : Nat) (t : Int), (ts ++ [x.n])[i]? = some t → 0 ≤ t ∧ t ≤ y.n := by
    intro i t ht
    rcases at_snoc ht with ⟨_, ht⟩ | ⟨_, rfl⟩
    · have := h.low i t ht; omega
    · omega
  refine ⟨key, fun i j t u hij ht hu => ?_, low, fun i j t u hij ht hu => ?_⟩
  rotate_left
  · rcases at_snoc hu with ⟨hj, hu⟩ | ⟨hj, rfl⟩
    · rcases at_snoc ht with ⟨hi, ht⟩ | ⟨hi, _⟩
      · exact h.mon i j t u hij ht hu
      · omega
    · have := low i t ht; omega
  rcases Nat.lt_or_ge j ts.length with hj | hj
  · rw [List.getElem?_append_left hj] at hu
    rw [List.getElem?_append_left (by omega)] at ht
    exact h.win i j t u hij ht hu
  · rw [List.getElem?_append_right hj] at hu
    have hj' : j = ts.length := by
      rcases Nat.lt_or_ge ts.length j with h' | h'
      · rw [List.getElem?_eq_none (by simp; omega)] at hu; cases hu
      · omega
    subst hj'
    simp at hu
    have := key i t ht
    rw [List.length_append, List.length_singleton] at this
    rw [show ((ts.length : Int) - i + 1) = (((ts.length + 1 : Nat) : Int) - i) by omega]
    omega
end Go.Proofs.Ytmhdplflflgbkaa
