/- The contracts of package nums and of its reference. -/
import Derived.Test.YtfmgjffdompohaaD
import Derived.Test.YtfmgjffdompohaaA
namespace Go.Proofs.Ytfmgjffdompohaa
open Go.Vc

def Is (w : World) (n : Int) (e : Ending) (w' : World) : Prop := e = .returned (.int .i64 n) ∧ w' = w
theorem is_mk {w : World} {m n : Int} (h : m = n) : Is w n (.returned (.int .i64 m)) w := ⟨by rw [h], rfl⟩

theorem greatest_ca (w : World) : Ca Try.prog 19 #[] w (Is w 9223372036854775807) := greatest_ok _ _ (is_mk rfl)
theorem least_ca (w : World) : Ca Try.prog 20 #[] w (Is w (-9223372036854775808)) := least_ok _ _ (is_mk rfl)

theorem add_ca (a b : Int) (w : World) (ha : In a) (hb : In b) : Ca Try.prog 6 #[.int .i64 a, .int .i64 b] w (Is w (sat (a + b))) := by
  unfold In at ha hb
  refine add_ok _ _ _ _ (LetI.intro fun n3 h3 => ?_)
  rw [IntKind.wrap_i64] at h3
  refine Br.intro (fun h1 => Br.intro (fun h2 => is_mk ?_) (fun h2 => Br.intro (fun h4 => Br.intro (fun h5 => is_mk ?_) (fun h5 => is_mk ?_)) (fun h4 => is_mk ?_))) (fun h1 => Br.intro (fun h4 => Br.intro (fun h5 => is_mk ?_) (fun h5 => is_mk ?_)) (fun h4 => is_mk ?_))
  all_goals (simp at *; unfold sat; omega)
theorem sub_ca (a b : Int) (w : World) (ha : In a) (hb : In b) : Ca Try.prog 8 #[.int .i64 a, .int .i64 b] w (Is w (sat (a - b))) := by
  unfold In at ha hb
  refine sub_ok _ _ _ _ (LetI.intro fun n3 h3 => ?_)
  rw [IntKind.wrap_i64] at h3
  refine Br.intro (fun h1 => Br.intro (fun h2 => is_mk ?_) (fun h2 => Br.intro (fun h4 => Br.intro (fun h5 => is_mk ?_) (fun h5 => is_mk ?_)) (fun h4 => is_mk ?_))) (fun h1 => Br.intro (fun h4 => Br.intro (fun h5 => is_mk ?_) (fun h5 => is_mk ?_)) (fun h4 => is_mk ?_))
  all_goals (simp at *; unfold sat; omega)
theorem radd_ca (a b : Int) (w : World) (ha : In a) (hb : In b) : Ca Try.prog 7 #[.int .i64 a, .int .i64 b] w (Is w (sat (a + b))) := by
  unfold In at ha hb
  refine radd_ok _ _ _ _ (Br.intro (fun h1 => (greatest_ca w).mono ?_) (fun h1 => (least_ca w).mono ?_))
  · rintro e w4 ⟨rfl, rfl⟩
    simp at h1
    refine ⟨_, rfl, LetI.id (by omega) (by omega) (Br.intro (fun h2 => (greatest_ca _).mono ?_) (fun h2 => LetI.id ?_ ?_ (is_mk ?_)))⟩
    · rintro e w8 ⟨rfl, rfl⟩
      simp at h2
      exact ⟨_, rfl, is_mk (by unfold sat; omega)⟩
    all_goals (simp at h2; try unfold sat) <;> omega
  · rintro e w4 ⟨rfl, rfl⟩
    simp at h1
    refine ⟨_, rfl, LetI.id (by omega) (by omega) (Br.intro (fun h2 => (least_ca _).mono ?_) (fun h2 => LetI.id ?_ ?_ (is_mk ?_)))⟩
    · rintro e w8 ⟨rfl, rfl⟩
      simp at h2
      exact ⟨_, rfl, is_mk (by unfold sat; omega)⟩
    all_goals (simp at h2; try unfold sat) <;> omega
theorem rsub_ca (a b : Int) (w : World) (ha : In a) (hb : In b) : Ca Try.prog 9 #[.int .i64 a, .int .i64 b] w (Is w (sat (a - b))) := by
  unfold In at ha hb
  refine rsub_ok _ _ _ _ (Br.intro (fun h1 => (least_ca w).mono ?_) (fun h1 => (greatest_ca w).mono ?_))
  · rintro e w4 ⟨rfl, rfl⟩
    simp at h1
    refine ⟨_, rfl, LetI.id (by omega) (by omega) (Br.intro (fun h2 => (least_ca _).mono ?_) (fun h2 => LetI.id ?_ ?_ (is_mk ?_)))⟩
    · rintro e w8 ⟨rfl, rfl⟩
      simp at h2
      exact ⟨_, rfl, is_mk (by unfold sat; omega)⟩
    all_goals (simp at h2; try unfold sat) <;> omega
  · rintro e w4 ⟨rfl, rfl⟩
    simp at h1
    refine ⟨_, rfl, LetI.id (by omega) (by omega) (Br.intro (fun h2 => (greatest_ca _).mono ?_) (fun h2 => LetI.id ?_ ?_ (is_mk ?_)))⟩
    · rintro e w8 ⟨rfl, rfl⟩
      simp at h2
      exact ⟨_, rfl, is_mk (by unfold sat; omega)⟩
    all_goals (simp at h2; try unfold sat) <;> omega

theorem sign_mul {a b : Int} (hb0 : b ≠ 0) (ha0 : a ≠ 0) : ((a < 0) = (b < 0) → 0 < a * b) ∧ (¬ (a < 0) = (b < 0) → a * b < 0) := by
  refine ⟨fun h => ?_, fun h => ?_⟩
  · by_cases h1 : a < 0
    · exact Int.mul_pos_of_neg_of_neg h1 (by rw [← h]; exact h1)
    · have h2 : ¬ b < 0 := by rw [← h]; exact h1
      exact Int.mul_pos (by omega) (by omega)
  · by_cases h1 : a < 0
    · have h2 : ¬ b < 0 := fun h2 => h (by simp [h1, h2])
      exact Int.mul_neg_of_neg_of_pos h1 (by omega)
    · have h2 : b < 0 := by
        by_cases h2 : b < 0
        · exact h2
        · exact absurd (by simp [h1, h2]) h
      exact Int.mul_neg_of_pos_of_neg (by omega) h2

theorem mul_ca (a b : Int) (w : World) (ha : In a) (hb : In b) : Ca Try.prog 10 #[.int .i64 a, .int .i64 b] w (Is w (sat (a * b))) := by
  refine mul_ok _ _ _ _ (Br.intro (fun h1 => is_mk ?_) (fun h1 => Br.intro (fun h2 => is_mk ?_) (fun h2 => LetI.intro fun c hc => ⟨?_, LetI.intro fun q hq => ?_⟩)))
  · simp at h1; subst h1; rw [Int.zero_mul]; decide
  · simp at h2; subst h2; rw [Int.mul_zero]; decide
  · simpa using h2
  simp at h1 h2
  obtain ⟨k1, k2⟩ := mul_back ha hb h2 hc hq
  obtain ⟨s1, s2⟩ := sign_mul h2 h1
  have over : ¬ In (a * b) → Br (decide (a < 0) == decide (b < 0)) (Is w (sat (a * b)) (.returned (.int .i64 9223372036854775807)) w) (Is w (sat (a * b)) (.returned (.int .i64 (-9223372036854775808))) w) := by
    intro hin
    unfold In at hin
    refine Br.intro (fun h => is_mk ?_) (fun h => is_mk ?_)
    · have := s1 (by simpa using h); unfold sat; omega
    · have := s2 (by simpa using h); unfold sat; omega
  have good : In (a * b) → Is w (sat (a * b)) (.returned (.int .i64 c)) w := fun h => is_mk (by rw [(k1 h).1, sat_in h])
  refine Br.intro (fun h3 => Br.intro (fun h4 => Br.intro (fun h5 => Br.intro (fun h6 => Br.intro (fun h7 => good (k2 ?_ ?_)) (fun h7 => over ?_)) (fun h6 => good (k2 ?_ ?_))) (fun h5 => over ?_)) (fun h4 => Br.intro (fun h6 => Br.intro (fun h7 => good (k2 ?_ ?_)) (fun h7 => over ?_)) (fun h6 => good (k2 ?_ ?_)))) (fun h3 => over fun h => ?_)
  all_goals simp at *
  all_goals first
    | omega
    | (intro h; subst h; omega)
    | (subst_vars; unfold In; omega)
    | exact h3 (k1 h).2

theorem LetI.u64 {n : Int} {F : Int → Prop} (h1 : 0 ≤ n) (h2 : n ≤ 18446744073709551615) (h : F n) : LetI (IntKind.u64.wrap n) F :=
  LetI.wrap (by rw [wrap_u64]; omega) h
theorem rsize_ca (a : Int) (w : World) (ha : In a) : Ca Try.prog 21 #[.int .i64 a] w fun e w' => e = .returned (.int .u64 (a.natAbs : Int)) ∧ w' = w := by
  unfold In at ha
  refine rsize_ok _ _ _ (Br.intro (fun h => ?_) (fun h => ?_))
  · simp at h
    refine LetI.id (by omega) (by omega) ?_
    rw [wrap_id (by omega) (by omega)]
    refine LetI.u64 (by omega) (by omega) (LetI.u64 (by omega) (by omega) ⟨?_, rfl⟩)
    congr 2; omega
  · simp at h
    refine LetI.u64 (by omega) (by omega) ⟨?_, rfl⟩
    congr 2; omega
theorem rmul_ca (a b : Int) (w : World) (ha : In a) (hb : In b) : Ca Try.prog 11 #[.int .i64 a, .int .i64 b] w (Is w (sat (a * b))) := by
  have habs : ((a * b).natAbs : Int) = (a.natAbs : Int) * (b.natAbs : Int) := by rw [Int.natAbs_mul]; rfl
  have hx0 : (0 : Int) ≤ a.natAbs := by omega
  have hy0 : (0 : Int) ≤ b.natAbs := by omega
  have hx1 : (a.natAbs : Int) ≤ 9223372036854775808 := by unfold In at ha; omega
  have hy1 : (b.natAbs : Int) ≤ 9223372036854775808 := by unfold In at hb; omega
  have hsg : (decide (a < 0) == decide (b < 0)) = true → 0 ≤ a * b := by
    intro h
    have h : (a < 0) = (b < 0) := by simpa using h
    by_cases h1 : a = 0
    · subst h1; simp
    · by_cases h2 : b = 0
      · subst h2; simp
      · exact Int.le_of_lt ((sign_mul h2 h1).1 h)
  have hsn : (decide (a < 0) == decide (b < 0)) = false → a * b ≤ 0 := by
    intro h
    have h : ¬ (a < 0) = (b < 0) := by simpa using h
    by_cases h1 : a = 0
    · subst h1; simp
    · by_cases h2 : b = 0
      · subst h2; simp
      · exact Int.le_of_lt ((sign_mul h2 h1).2 h)
  refine rmul_ok _ _ _ _ ((rsize_ca a w ha).mono ?_)
  rintro e w4 ⟨rfl, rfl⟩
  refine ⟨_, rfl, (rsize_ca b _ hb).mono ?_⟩
  rintro e w7 ⟨rfl, rfl⟩
  refine ⟨_, rfl, (greatest_ca _).mono ?_⟩
  rintro e w10 ⟨rfl, rfl⟩
  generalize (a.natAbs : Int) = x at *
  generalize (b.natAbs : Int) = y at *
  generalize hp : a * b = p at *
  generalize hs : (decide (a < 0) == decide (b < 0)) = s at *
  refine ⟨_, rfl, LetI.u64 (by omega) (by omega) ⟨fun vs w' => vs = [.int .u64 (if s then 9223372036854775807 else 9223372036854775808)] ∧ w' = w10, ?_, ?_⟩⟩
  · refine Br.intro (fun h => ?_) (fun h => ?_)
    · simp at h
      exact LetI.u64 (by omega) (by omega) ⟨by simp [h], rfl⟩
    · simp at h
      exact ⟨by simp [h], rfl⟩
  rintro m w16 ⟨hv, rfl⟩
  simp only [List.cons.injEq, Value.int.injEq, true_and, and_true] at hv
  have hm : m = if s then 9223372036854775807 else 9223372036854775808 := hv
  refine ⟨fun vs w' => vs = [.int .i64 0] ∧ w' = w16 ∧ x * y ≤ m, ?_, ?_⟩
  · refine Br.intro (fun h => ⟨?_, ?_⟩) (fun h => ?_)
    · simpa using h
    · have hx : 1 ≤ x := by simp at h; omega
      refine LetI.intro fun q hq => ?_
      have hm0 : 0 ≤ m := by rw [hm]; split <;> omega
      have hq' : q = m / x := by
        have h1 : m.tdiv x = m / x := Int.tdiv_eq_ediv_of_nonneg hm0
        have h2 : m / x ≤ m := Int.ediv_le_self _ hm0
        have h3 : 0 ≤ m / x := Int.ediv_nonneg hm0 hx0
        rw [hq, h1, wrap_u64]
        have : m ≤ 9223372036854775808 := by rw [hm]; split <;> omega
        omega
      refine Br.intro (fun hc => ?_) (fun hc => ⟨rfl, rfl, ?_⟩)
      · have hc : m / x < y := by rw [← hq']; simpa using hc
        have hbig : m < x * y := by
          have := (Int.ediv_lt_iff_lt_mul (show 0 < x by omega)).1 hc
          rw [Int.mul_comm]; exact this
        refine Br.intro (fun hs' => (least_ca _).mono ?_) (fun hs' => (greatest_ca _).mono ?_)
        · rintro e w20 ⟨rfl, rfl⟩
          refine ⟨_, rfl, is_mk ?_⟩
          simp at hs'
          subst hs'
          have := hsn rfl
          simp at hm
          unfold sat; omega
        · rintro e w20 ⟨rfl, rfl⟩
          refine ⟨_, rfl, is_mk ?_⟩
          simp at hs'
          subst hs'
          have := hsg rfl
          simp at hm
          unfold sat; omega
      · have hc : ¬ m / x < y := by rw [← hq']; simpa using hc
        have : ¬ m < x * y := by
          intro h
          exact hc ((Int.ediv_lt_iff_lt_mul (show 0 < x by omega)).2 (by rw [Int.mul_comm]; exact h))
        omega
    · have hx : x = 0 := by simpa using h
      refine ⟨rfl, rfl, ?_⟩
      rw [hx, Int.zero_mul, hm]; split <;> omega
  rintro n25 w26 ⟨hv, rfl, hle⟩
  have h0 : 0 ≤ x * y := Int.mul_nonneg hx0 hy0
  have hm2 : m ≤ 9223372036854775808 := by rw [hm]; split <;> omega
  refine Br.intro (fun hs' => LetI.u64 h0 (by omega) (Br.intro (fun hc => LetI.u64 h0 (by omega) (LetI.u64 ?_ (by omega) (LetI.id ?_ ?_ ?_))) (fun hc => LetI.u64 h0 (by omega) (LetI.id ?_ ?_ (is_mk ?_))))) (fun hs' => LetI.u64 h0 (by omega) (LetI.id ?_ ?_ (is_mk ?_)))
  all_goals simp at hs'
  all_goals subst hs'
  all_goals simp at hm
  all_goals first
    | (simp at hc; omega)
    | omega
    | skip
  · simp at hc
    have := hsn rfl
    rw [wrap_id (n := 0 - (x * y - 1)) (by omega) (by omega)]
    exact LetI.id (by omega) (by omega) (is_mk (by unfold sat; omega))
  · simp at hc
    have := hsn rfl
    unfold sat; omega
  · have := hsg rfl
    unfold sat; omega

def ringOf (n size : Int) : Int := if size < 1 then 0 else n % size
def ceilOf (a b : Int) : Int := if a < 0 ∨ b < 1 then 0 else (a + b - 1) / b
theorem clamp_ca (n lo hi : Int) (w : World) : Ca Try.prog 12 #[.int .i64 n, .int .i64 lo, .int .i64 hi] w (Is w (max lo (min n hi))) :=
  clamp_ok _ _ _ _ _ (is_mk rfl)
theorem rclamp_ca (n lo hi : Int) (w : World) : Ca Try.prog 13 #[.int .i64 n, .int .i64 lo, .int .i64 hi] w (Is w (max lo (min n hi))) := by
  refine rclamp_ok _ _ _ _ _ ⟨fun vs w' => w' = w, rfl, ?_⟩
  rintro w5 rfl
  refine Br.intro (fun h => Br.intro (fun h2 => is_mk ?_) (fun h2 => is_mk ?_)) (fun h => Br.intro (fun h2 => is_mk ?_) (fun h2 => is_mk ?_))
  all_goals (simp at h h2; omega)
theorem ediv_parts (a b : Int) (hb : 0 < b) : b * (a / b) + a % b = a ∧ 0 ≤ a % b ∧ a % b < b := ⟨Int.mul_ediv_add_emod a b, Int.emod_nonneg a (by omega), Int.emod_lt_of_pos a hb⟩
theorem div_eq {a b q r : Int} (hb : 0 < b) (h : a = b * q + r) (h0 : 0 ≤ r) (h1 : r < b) : a / b = q := by
  subst h
  rw [Int.mul_add_ediv_left _ _ (by omega), Int.ediv_eq_zero_of_lt h0 h1]; omega
theorem mod_eq {a b q r : Int} (h : a = b * q + r) (h0 : 0 ≤ r) (h1 : r < b) : a % b = r := by
  subst h
  rw [Int.mul_add_emod_self_left, Int.emod_eq_of_lt h0 h1]
theorem ceil_ca (a b : Int) (w : World) (ha : In a) : Ca Try.prog 14 #[.int .i64 a, .int .i64 b] w (Is w (ceilOf a b)) := by
  unfold In at ha
  refine ceil_ok _ _ _ _ (Br.intro (fun h => is_mk ?_) (fun h => Br.intro (fun h2 => is_mk ?_) (fun h2 => ?_)))
  · simp at h; exact (if_pos (.inl h)).symm
  · simp at h2; exact (if_pos (.inr (by omega))).symm
  simp at h h2
  have hc : ceilOf a b = (a + b - 1) / b := if_neg (by omega)
  obtain ⟨p1, p2, p3⟩ := ediv_parts a b (by omega)
  have hq : a / b ≤ a := Int.ediv_le_self _ h
  have hq0 : 0 ≤ a / b := Int.ediv_nonneg h (by omega)
  refine ⟨by omega, LetI.quo h (by omega) (by omega) ⟨by omega, LetI.rem h (Br.intro (fun h3 => LetI.intro fun m hm => is_mk ?_) (fun h3 => is_mk ?_))⟩⟩
  · simp at h3
    rw [hc, div_eq (q := a / b + 1) (r := a % b - 1) (by omega) (by rw [Int.mul_add]; omega) (by omega) (by omega), hm]
    apply wrap_id <;> try omega
    have : a / b < a ∨ a / b ≤ 9223372036854775806 := by
      by_cases h4 : a / b = a
      · have : b = 1 ∨ a = 0 := by
          by_cases h5 : a = 0
          · exact .inr h5
          · left
            have h6 : b * a ≤ a := by rw [h4] at p1; omega
            by_cases h7 : b = 1
            · exact h7
            · have h8 : 2 * a ≤ b * a := Int.mul_le_mul_of_nonneg_right (by omega) h
              omega
        rcases this with h5 | h5
        · subst h5; omega
        · omega
      · omega
    omega
  · have h3 : ¬ a % b > 0 := of_decide_eq_false h3
    rw [hc, div_eq (a := a + b - 1) (q := a / b) (r := b - 1) (by omega) (by omega) (by omega) (by omega)]
theorem rceil_ca (a b : Int) (w : World) (ha : In a) (hb : In b) : Ca Try.prog 15 #[.int .i64 a, .int .i64 b] w (Is w (ceilOf a b)) := by
  unfold In at ha hb
  refine rceil_ok _ _ _ _ (Br.intro (fun h => is_mk ?_) (fun h => Br.intro (fun h2 => is_mk ?_) (fun h2 => ?_)))
  · simp at h; exact (if_pos (.inr (by omega))).symm
  · simp at h h2
    unfold ceilOf
    by_cases h3 : a < 0
    · rw [if_pos (.inl h3)]
    · have : a = 0 := by omega
      subst this
      rw [if_neg (by omega)]
      exact (Int.ediv_eq_zero_of_lt (by omega) (by omega)).symm
  · simp at h h2
    have hc : ceilOf a b = (a + b - 1) / b := if_neg (by omega)
    have hq : (a - 1) / b ≤ a - 1 := Int.ediv_le_self _ (by omega)
    have hq0 : 0 ≤ (a - 1) / b := Int.ediv_nonneg (by omega) (by omega)
    refine LetI.id (by omega) (by omega) ⟨by omega, LetI.quo (by omega) (by omega) (by omega) (LetI.id (by omega) (by omega) (is_mk ?_))⟩
    rw [hc, show a + b - 1 = (a - 1) + 1 * b by omega, Int.add_mul_ediv_right _ _ (by omega)]
theorem ring_ca (n s : Int) (w : World) (hs : In s) : Ca Try.prog 16 #[.int .i64 n, .int .i64 s] w (Is w (ringOf n s)) := by
  unfold In at hs
  refine ring_ok _ _ _ _ (Br.intro (fun h => is_mk ?_) (fun h => ⟨?_, LetI.intro fun m hm => ?_⟩))
  · simp at h; exact (if_pos (by omega)).symm
  · simp at h; omega
  simp at h
  have hc : ringOf n s = n % s := if_neg (by omega)
  have h1 : (n.tmod s).natAbs < s.natAbs := by rw [Int.natAbs_tmod]; exact Nat.mod_lt _ (by omega)
  have h2 : s * (n.tdiv s) + n.tmod s = n := Int.mul_tdiv_add_tmod n s
  refine Br.intro (fun h3 => LetI.id ?_ ?_ (is_mk ?_)) (fun h3 => is_mk ?_)
  · simp at h3; omega
  · simp at h3; omega
  · simp at h3
    rw [hc]
    refine (mod_eq (q := n.tdiv s - 1) ?_ (by omega) (by omega)).symm
    rw [Int.mul_sub]; omega
  · simp at h3
    rw [hc]
    exact (mod_eq (q := n.tdiv s) (by omega) (by omega) (by omega)).symm
theorem rring_ca (n s : Int) (w : World) (hn : In n) (hs : In s) : Ca Try.prog 17 #[.int .i64 n, .int .i64 s] w (Is w (ringOf n s)) := by
  unfold In at hn hs
  refine rring_ok _ _ _ _ (Br.intro (fun h => is_mk ?_) (fun h => Br.intro (fun h2 => ⟨?_, LetI.rem ?_ (is_mk ?_)⟩) (fun h2 => LetI.id ?_ ?_ (LetI.id ?_ ?_ ⟨?_, ?_⟩))))
  · simp at h; exact (if_pos (by omega)).symm
  · simp at h; omega
  · simpa using h2
  · simp at h; exact (if_neg (by omega)).symm
  all_goals simp at h h2
  · omega
  · omega
  · omega
  · omega
  · omega
  · have hc : ringOf n s = n % s := if_neg (by omega)
    rw [wrap_id (by omega) (by omega)]
    obtain ⟨p1, p2, p3⟩ := ediv_parts (0 - (n + 1)) s (by omega)
    refine LetI.rem (by omega) (LetI.id (by omega) (by omega) (is_mk ?_))
    rw [hc]
    refine (mod_eq (q := -((0 - (n + 1)) / s) - 1) ?_ (by omega) (by omega)).symm
    rw [Int.mul_sub, Int.mul_neg]; omega
end Go.Proofs.Ytfmgjffdompohaa
