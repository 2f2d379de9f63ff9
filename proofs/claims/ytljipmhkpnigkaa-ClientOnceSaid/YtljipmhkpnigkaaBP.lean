/- Buckets: the plain law. No program is named. -/
import Derived.Test.YtljipmhkpnigkaaV5
namespace Go.Codec
open Go.Vc

structure Bk where
  c : Int
  r : Int
  l : Int
  s : Int
  n : Int

def Bk.cells (x : Bk) : Array Value := #[.int .i64 x.c, .int .i64 x.r, .int .i64 x.l, .int .i64 x.s, .int .i64 x.n]
def Bk.ok (x : Bk) : Prop := 0 ≤ x.c ∧ x.c ≤ 16 ∧ 1 ≤ x.r ∧ x.r ≤ 1099511627776 ∧ 0 ≤ x.l ∧ x.l ≤ x.c ∧ 0 ≤ x.s ∧ x.s ≤ x.n ∧ x.n ≤ 1099511627776
def tick (n now : Int) : Int := max n (min now 1099511627776)
def Bk.bring (x : Bk) (n : Int) : Bk :=
  let k := (n - x.s) / x.r
  if x.c ≤ x.l + k then ⟨x.c, x.r, x.c, n, n⟩ else ⟨x.c, x.r, x.l + k, x.s + k * x.r, n⟩
def Bk.go (x : Bk) (now : Int) : Bk := x.bring (tick x.n now)
def Bk.take (x : Bk) (now : Int) : Bool × Bk :=
  let y := x.go now
  if y.l = 0 then (false, y) else (true, ⟨y.c, y.r, y.l - 1, y.s, y.n⟩)

theorem tick_le (n now : Int) (h : n ≤ 1099511627776) : n ≤ tick n now ∧ tick n now ≤ 1099511627776 := by unfold tick; omega

theorem div_le (a r : Int) (ha : 0 ≤ a) (hr : 1 ≤ r) : 0 ≤ a / r ∧ a / r ≤ a ∧ a / r * r ≤ a ∧ a < a / r * r + r := by
  refine ⟨Int.ediv_nonneg ha (by omega), Int.ediv_le_self _ ha, Int.ediv_mul_le _ (by omega), ?_⟩
  have := Int.lt_ediv_add_one_mul_self a (show (0 : Int) < r by omega)
  rw [Int.add_mul, Int.one_mul] at this
  exact this

theorem Bk.bring_ok {x : Bk} (h : x.ok) (n : Int) (h1 : x.n ≤ n) (h2 : n ≤ 1099511627776) : (x.bring n).ok := by
  obtain ⟨a, b, c, d, e, f, g, i, j⟩ := h
  have hd := div_le (n - x.s) x.r (by omega) c
  have he : 0 ≤ (n - x.s) / x.r * x.r := Int.mul_nonneg hd.1 (by omega)
  unfold Bk.bring Bk.ok
  dsimp only
  generalize (n - x.s) / x.r * x.r = m at *
  generalize (n - x.s) / x.r = k at *
  split <;> dsimp only <;> omega
theorem Bk.go_ok {x : Bk} (h : x.ok) (now : Int) : (x.go now).ok := by
  have := tick_le x.n now h.2.2.2.2.2.2.2.2
  exact Bk.bring_ok h _ this.1 this.2
theorem Bk.take_ok {x : Bk} (h : x.ok) (now : Int) : (x.take now).2.ok := by
  have := Bk.go_ok h now
  unfold Bk.take
  dsimp only
  split
  · exact this
  · unfold Bk.ok at *; dsimp only; omega

/-! The document's way: token by token -/
/-- one token more, if there is room and it is time -/
theorem Bk.bring_step {x : Bk} (h : x.ok) (n : Int) : Bk.bring ⟨x.c, x.r, x.l + 1, x.s + x.r, x.n⟩ n = x.bring n := by
  obtain ⟨a, b, c, d, e, f, g, i, j⟩ := h
  have hq : (n - (x.s + x.r)) / x.r = (n - x.s) / x.r - 1 := by
    rw [show n - (x.s + x.r) = (n - x.s) + (-1) * x.r by omega, Int.add_mul_ediv_right _ _ (by omega)]; omega
  unfold Bk.bring
  dsimp only
  rw [hq]
  have hm : ((n - x.s) / x.r - 1) * x.r = (n - x.s) / x.r * x.r - x.r := by rw [Int.sub_mul, Int.one_mul]
  rw [hm, show x.l + 1 + ((n - x.s) / x.r - 1) = x.l + (n - x.s) / x.r by omega, show x.s + x.r + ((n - x.s) / x.r * x.r - x.r) = x.s + (n - x.s) / x.r * x.r by omega]
theorem Bk.bring_stop {x : Bk} (h : x.ok) (n : Int) (h0 : x.s ≤ n) (hl : x.l < x.c) (hs : n < x.s + x.r) : x.bring n = ⟨x.c, x.r, x.l, x.s, n⟩ := by
  obtain ⟨a, b, c, d, e, f, g, i, j⟩ := h
  have hq : (n - x.s) / x.r = 0 := Int.ediv_eq_zero_of_lt (by omega) (by omega)
  unfold Bk.bring
  dsimp only
  rw [hq, if_neg (by omega)]
  simp
theorem Bk.bring_full {x : Bk} (h : x.ok) (n : Int) (h0 : x.s ≤ n) (hl : x.l = x.c) : x.bring n = ⟨x.c, x.r, x.c, n, n⟩ := by
  obtain ⟨a, b, c, d, e, f, g, i, j⟩ := h
  have hq : 0 ≤ (n - x.s) / x.r := Int.ediv_nonneg (by omega) (by omega)
  unfold Bk.bring
  dsimp only
  rw [if_pos (by omega)]
/-- no time goes by: nothing changes -/
theorem Bk.bring_twice {x : Bk} (h : x.ok) (n : Int) (h1 : x.n ≤ n) : (x.bring n).bring n = x.bring n := by
  obtain ⟨a, b, c, d, e, f, g, i, j⟩ := h
  have hd := div_le (n - x.s) x.r (by omega) c
  by_cases hc : x.c ≤ x.l + (n - x.s) / x.r
  · have e1 : x.bring n = ⟨x.c, x.r, x.c, n, n⟩ := if_pos hc
    rw [e1]
    show (if x.c ≤ x.c + (n - n) / x.r then _ else _) = _
    have : (n - n) / x.r = 0 := by rw [Int.sub_self]; exact Int.zero_ediv _
    rw [if_pos (by omega)]
  · have e1 : x.bring n = ⟨x.c, x.r, x.l + (n - x.s) / x.r, x.s + (n - x.s) / x.r * x.r, n⟩ := if_neg hc
    rw [e1]
    show (if x.c ≤ x.l + (n - x.s) / x.r + (n - (x.s + (n - x.s) / x.r * x.r)) / x.r then _ else _) = _
    have : (n - (x.s + (n - x.s) / x.r * x.r)) / x.r = 0 := Int.ediv_eq_zero_of_lt (by omega) (by omega)
    rw [this, if_neg (by omega)]
    simp
theorem Bk.bring_n (x : Bk) (n : Int) : (x.bring n).n = n := by unfold Bk.bring; dsimp only; split <;> rfl
theorem Bk.go_old {x : Bk} (h : x.ok) (now old : Int) (ho : old ≤ 0) : (x.go now).go old = x.go now := by
  have h9 := h.2.2.2.2.2.2
  have ht := tick_le x.n now h9.2.2
  unfold Bk.go
  have : tick (x.bring (tick x.n now)).n old = tick x.n now := by
    rw [Bk.bring_n]; generalize tick x.n now = m at *; unfold tick; omega
  rw [this]
  exact Bk.bring_twice h _ ht.1
/-- nothing more comes at this tick -/
def Bk.still (x : Bk) (t : Int) : Prop := x.ok ∧ x.n = t ∧ x.n - x.s < x.r ∧ (x.l = x.c → x.s = x.n)
def Bk.phi (x : Bk) : Int := if x.l = x.c then x.c * x.r else x.l * x.r + (x.n - x.s)

theorem Bk.phi_nonneg {x : Bk} (h : x.ok) : 0 ≤ x.phi ∧ x.phi ≤ x.c * x.r + (if x.l = x.c then 0 else x.n - x.s - x.r) := by
  obtain ⟨a, b, c, d, e, f, g, i, j⟩ := h
  have h1 := Int.mul_nonneg a (show 0 ≤ x.r by omega)
  have h2 := Int.mul_nonneg e (show 0 ≤ x.r by omega)
  unfold Bk.phi
  split
  · omega
  · have h3 : x.l + 1 ≤ x.c := by omega
    have h4 := Int.mul_le_mul_of_nonneg_right h3 (show 0 ≤ x.r by omega)
    rw [Int.add_mul, Int.one_mul] at h4
    omega
theorem Bk.still_phi {x : Bk} {t : Int} (h : x.still t) : 0 ≤ x.phi ∧ x.phi ≤ x.c * x.r := by
  have h1 := Bk.phi_nonneg h.1
  have h2 := h.2.2.1
  refine ⟨h1.1, ?_⟩
  have := h1.2
  split at this <;> omega

theorem Bk.still_bring {x : Bk} {t : Int} (h : x.still t) : x.bring t = x := by
  obtain ⟨⟨a, b, c, d, e, f, g, i, j⟩, hn, hs, hl⟩ := h
  have hq : (t - x.s) / x.r = 0 := Int.ediv_eq_zero_of_lt (by omega) (by omega)
  unfold Bk.bring
  dsimp only
  rw [hq]
  by_cases hc : x.c ≤ x.l + 0
  · rw [if_pos hc]
    have hlc : x.l = x.c := by omega
    have hsn := hl hlc
    cases x; dsimp only at *; congr 1 <;> omega
  · rw [if_neg hc]
    cases x; dsimp only at *; congr 1 <;> omega
theorem Bk.bring_still {x : Bk} (h : x.ok) {t : Int} (h1 : x.n ≤ t) (h2 : t ≤ 1099511627776) : (x.bring t).still t ∧ (x.bring t).phi ≤ x.phi + (t - x.n) ∧ (x.bring t).r = x.r ∧ (x.bring t).c = x.c := by
  have hok := Bk.bring_ok h t h1 h2
  obtain ⟨a, b, c, d, e, f, g, i, j⟩ := h
  have hd := div_le (t - x.s) x.r (by omega) c
  by_cases hc : x.c ≤ x.l + (t - x.s) / x.r
  · have e1 : x.bring t = ⟨x.c, x.r, x.c, t, t⟩ := if_pos hc
    rw [e1] at hok ⊢
    refine ⟨⟨hok, rfl, by dsimp only; omega, fun _ => rfl⟩, ?_, rfl, rfl⟩
    have : Bk.phi ⟨x.c, x.r, x.c, t, t⟩ = x.c * x.r := if_pos rfl
    rw [this]
    unfold Bk.phi
    split
    · omega
    · have h3 : x.c - x.l ≤ (t - x.s) / x.r := by omega
      have h4 := Int.mul_le_mul_of_nonneg_right h3 (show 0 ≤ x.r by omega)
      rw [Int.sub_mul] at h4
      omega
  · have e1 : x.bring t = ⟨x.c, x.r, x.l + (t - x.s) / x.r, x.s + (t - x.s) / x.r * x.r, t⟩ := if_neg hc
    rw [e1] at hok ⊢
    refine ⟨⟨hok, rfl, by dsimp only; omega, fun h => by dsimp only at h; omega⟩, ?_, rfl, rfl⟩
    have h5 : Bk.phi ⟨x.c, x.r, x.l + (t - x.s) / x.r, x.s + (t - x.s) / x.r * x.r, t⟩ = (x.l + (t - x.s) / x.r) * x.r + (t - (x.s + (t - x.s) / x.r * x.r)) := if_neg (by dsimp only; omega)
    have h6 : x.phi = x.l * x.r + (x.n - x.s) := if_neg (by omega)
    rw [h5, h6, Int.add_mul]
    omega
def Bk.less (x : Bk) : Bk := ⟨x.c, x.r, x.l - 1, x.s, x.n⟩
theorem Bk.less_still {x : Bk} {t : Int} (h : x.still t) (hl : 0 < x.l) : x.less.still t ∧ x.less.phi = x.phi - x.r := by
  obtain ⟨⟨a, b, c, d, e, f, g, i, j⟩, hn, hs, hf⟩ := h
  refine ⟨⟨⟨a, b, c, d, by unfold Bk.less; dsimp only; omega, by unfold Bk.less; dsimp only; omega, g, i, j⟩, hn, hs, fun h => by unfold Bk.less at h; dsimp only at h; omega⟩, ?_⟩
  have h1 : x.less.phi = (x.l - 1) * x.r + (x.n - x.s) := if_neg (by unfold Bk.less; dsimp only; omega)
  rw [h1, Int.sub_mul, Int.one_mul]
  unfold Bk.phi
  split
  · rename_i h2
    have := hf h2
    rw [h2]; omega
  · omega
def okArgs (c r : Int) : Prop := 0 ≤ c ∧ c ≤ 16 ∧ 1 ≤ r ∧ r ≤ 1099511627776
instance (c r : Int) : Decidable (okArgs c r) := by unfold okArgs; infer_instance
instance (x : Bk) : Decidable x.ok := by unfold Bk.ok; infer_instance
def newBk (c r : Int) : Bk := ⟨c, r, c, 0, 0⟩
theorem newBk_ok {c r : Int} (h : okArgs c r) : (newBk c r).ok := by unfold okArgs at h; unfold Bk.ok newBk; dsimp only; omega

end Go.Codec
