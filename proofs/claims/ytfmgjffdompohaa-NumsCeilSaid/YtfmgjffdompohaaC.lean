/- The laws of chapter 1 return true. -/
import Derived.Test.YtfmgjffdompohaaB
import Derived.Test.YtfmgjffdompohaaV6
namespace Go.Proofs.Ytfmgjffdompohaa
open Go.Vc

theorem counted_ca (w : World) : Ca Try.prog 18 #[] w fun e w' => e = .returned (.bool true) ∧ w' = w := by
  have hM : In 9223372036854775807 := by unfold In; omega
  have hL : In (-9223372036854775808) := by unfold In; omega
  have sm : ∀ n : Int, -100 ≤ n → n ≤ 100 → In n := fun n h1 h2 => by unfold In; omega
  refine counted_ok _ _ ((add_ca _ 1 w hM (sm 1 (by omega) (by omega))).mono ?_)
  rintro e w1 ⟨rfl, rfl⟩
  refine ⟨_, rfl, Br.pos (by decide) ((sub_ca _ 1 _ hL (sm 1 (by omega) (by omega))).mono ?_)⟩
  rintro e w1 ⟨rfl, rfl⟩
  refine ⟨_, rfl, Br.pos (by decide) ((mul_ca _ (-1) _ hL (sm _ (by omega) (by omega))).mono ?_)⟩
  rintro e w1 ⟨rfl, rfl⟩
  refine ⟨_, rfl, Br.pos (by decide) ((clamp_ca _ _ _ _).mono ?_)⟩
  rintro e w1 ⟨rfl, rfl⟩
  refine ⟨_, rfl, Br.pos (by decide) ((clamp_ca _ _ _ _).mono ?_)⟩
  rintro e w1 ⟨rfl, rfl⟩
  refine ⟨_, rfl, Br.pos (by decide) ((ceil_ca (7) (2) _ (sm (7) (by omega) (by omega))).mono ?_)⟩
  rintro e w1 ⟨rfl, rfl⟩
  refine ⟨_, rfl, Br.pos (by decide) ((ceil_ca (8) (2) _ (sm (8) (by omega) (by omega))).mono ?_)⟩
  rintro e w1 ⟨rfl, rfl⟩
  refine ⟨_, rfl, Br.pos (by decide) ((ceil_ca (7) (0) _ (sm (7) (by omega) (by omega))).mono ?_)⟩
  rintro e w1 ⟨rfl, rfl⟩
  refine ⟨_, rfl, Br.pos (by decide) ((ring_ca (-1) (5) _ (sm (5) (by omega) (by omega))).mono ?_)⟩
  rintro e w1 ⟨rfl, rfl⟩
  refine ⟨_, rfl, Br.pos (by decide) ((ring_ca (12) (5) _ (sm (5) (by omega) (by omega))).mono ?_)⟩
  rintro e w1 ⟨rfl, rfl⟩
  refine ⟨_, rfl, Br.pos (by decide) ((ring_ca (3) (0) _ (sm (0) (by omega) (by omega))).mono ?_)⟩
  rintro e w1 ⟨rfl, rfl⟩
  exact ⟨_, rfl, rfl, rfl⟩

theorem tell_ca (a b c : Int) (w : World) (ha : In a) (hb : In b) : Ca Try.prog 3 #[.int .i64 a, .int .i64 b, .int .i64 c] w fun e w' => e = .returned (.bool true) ∧ Kp No w w' := by
  refine lawTell_ok _ _ _ _ _ ((add_ca a b w ha hb).mono ?_)
  rintro e w1 ⟨rfl, rfl⟩
  refine ⟨_, rfl, (radd_ca a b _ ha hb).mono ?_⟩
  rintro e w1 ⟨rfl, rfl⟩
  refine ⟨_, rfl, Br.neg (by simp) ((sub_ca a b _ ha hb).mono ?_)⟩
  rintro e w1 ⟨rfl, rfl⟩
  refine ⟨_, rfl, (rsub_ca a b _ ha hb).mono ?_⟩
  rintro e w1 ⟨rfl, rfl⟩
  refine ⟨_, rfl, Br.neg (by simp) ((mul_ca a b _ ha hb).mono ?_)⟩
  rintro e w1 ⟨rfl, rfl⟩
  refine ⟨_, rfl, (rmul_ca a b _ ha hb).mono ?_⟩
  rintro e w1 ⟨rfl, rfl⟩
  refine ⟨_, rfl, Br.neg (by simp) ((clamp_ca a b c _).mono ?_)⟩
  rintro e w1 ⟨rfl, rfl⟩
  refine ⟨_, rfl, (rclamp_ca a b c _).mono ?_⟩
  rintro e w1 ⟨rfl, rfl⟩
  refine ⟨_, rfl, Br.pos (by simp) ((ceil_ca a b _ ha).mono ?_)⟩
  rintro e w1 ⟨rfl, rfl⟩
  refine ⟨_, rfl, (rceil_ca a b _ ha hb).mono ?_⟩
  rintro e w1 ⟨rfl, rfl⟩
  refine ⟨_, rfl, Br.pos (by simp) ((ring_ca a b _ hb).mono ?_)⟩
  rintro e w1 ⟨rfl, rfl⟩
  refine ⟨_, rfl, (rring_ca a b _ ha hb).mono ?_⟩
  rintro e w1 ⟨rfl, rfl⟩
  refine ⟨_, rfl, Br.pos (by simp) ((counted_ca _).mono ?_)⟩
  rintro e w1 ⟨rfl, rfl⟩
  exact ⟨true, rfl, rfl, Kp.refl _ _⟩

def S32 (n : Int) : Prop := -2147483648 ≤ n ∧ n ≤ 2147483647
theorem mul_small {a b : Int} (ha : S32 a) (hb : S32 b) : -4611686018427387904 ≤ a * b ∧ a * b ≤ 4611686018427387904 := by
  unfold S32 at *
  have h1 : (a * b).natAbs = a.natAbs * b.natAbs := Int.natAbs_mul a b
  have h2 : a.natAbs * b.natAbs ≤ 2147483648 * 2147483648 := Nat.mul_le_mul (by omega) (by omega)
  omega
theorem within_ca (x y z : Int) (w : World) (hx : S32 x) (hy : S32 y) (hz : S32 z) : Ca Try.prog 4 #[.int .i32 x, .int .i32 y, .int .i32 z] w fun e w' => e = .returned (.bool true) ∧ Kp No w w' := by
  have hxy := mul_small hx hy
  have hxz := mul_small hx hz
  have hyz := mul_small hy hz
  unfold S32 at hx hy hz
  have ix : In x := by unfold In; omega
  have iy : In y := by unfold In; omega
  have iz : In z := by unfold In; omega
  have ixy : sat (x + y) = x + y := sat_in (by unfold In; omega)
  have ixyp : In (x + y) := by unfold In; omega
  have ixz : sat (x * z) = x * z := sat_in (by unfold In; omega)
  have iyz : sat (y * z) = y * z := sat_in (by unfold In; omega)
  refine lawWithin_ok _ _ _ _ _ (LetI.id (by omega) (by omega) (LetI.id (by omega) (by omega) (LetI.id (by omega) (by omega) ((add_ca x y w ix iy).mono ?_))))
  rintro e w1 ⟨rfl, rfl⟩
  refine ⟨_, rfl, LetI.id (by omega) (by omega) (Br.neg (by rw [ixy]; simp) ((sub_ca x y _ ix iy).mono ?_))⟩
  rintro e w1 ⟨rfl, rfl⟩
  refine ⟨_, rfl, LetI.id (by omega) (by omega) (Br.neg (by rw [sat_in (by unfold In; omega)]; simp) ((mul_ca x y _ ix iy).mono ?_))⟩
  rintro e w1 ⟨rfl, rfl⟩
  refine ⟨_, rfl, LetI.id (by omega) (by omega) (Br.neg (by rw [sat_in (by unfold In; omega)]; simp) ((add_ca x y _ ix iy).mono ?_))⟩
  rintro e w1 ⟨rfl, rfl⟩
  refine ⟨_, rfl, (mul_ca _ z _ (in_sat _) iz).mono ?_⟩
  rintro e w1 ⟨rfl, rfl⟩
  refine ⟨_, rfl, (mul_ca x z _ ix iz).mono ?_⟩
  rintro e w1 ⟨rfl, rfl⟩
  refine ⟨_, rfl, (mul_ca y z _ iy iz).mono ?_⟩
  rintro e w1 ⟨rfl, rfl⟩
  refine ⟨_, rfl, (add_ca _ _ _ (in_sat _) (in_sat _)).mono ?_⟩
  rintro e w1 ⟨rfl, rfl⟩
  refine ⟨_, rfl, Br.neg (by rw [ixy, ixz, iyz, Int.add_mul]; simp) ((add_ca _ x _ (by unfold In; omega) ix).mono ?_)⟩
  rintro e w1 ⟨rfl, rfl⟩
  have hbig : decide (x ≥ 0) = (sat (9223372036854775807 + x) == 9223372036854775807) := by
    by_cases h : x ≥ 0
    · have : sat (9223372036854775807 + x) = 9223372036854775807 := by unfold sat; omega
      simp [h, this]
    · have : ¬ sat (9223372036854775807 + x) = 9223372036854775807 := by unfold sat; omega
      simp [h, this]
  refine ⟨_, rfl, Br.pos (by rw [hbig]; simp) ((sub_ca _ x _ (by unfold In; omega) ix).mono ?_)⟩
  rintro e w1 ⟨rfl, rfl⟩
  refine ⟨_, rfl, (sub_ca _ 0 _ (in_sat _) (by unfold In; omega)).mono ?_⟩
  rintro e w1 ⟨rfl, rfl⟩
  refine ⟨_, rfl, LetI.eq rfl ?_⟩
  rw [wrap_id (by omega) (by omega)]
  refine (add_ca _ _ _ (by unfold In; omega) (by unfold In; omega)).mono ?_
  rintro e w1 ⟨rfl, rfl⟩
  refine ⟨_, rfl, Br.pos (by simp; unfold sat; omega) ((counted_ca _).mono ?_)⟩
  rintro e w1 ⟨rfl, rfl⟩
  exact ⟨true, rfl, rfl, Kp.refl _ _⟩

theorem ceil_law (a b n : Int) (w : World) (ha : 0 ≤ a ∧ a ≤ 4294967295) (hb : 0 ≤ b ∧ b ≤ 4294967295) (hn : S32 n) : Ca Try.prog 5 #[.int .u32 a, .int .u32 b, .int .i32 n] w fun e w' => e = .returned (.bool true) ∧ Kp No w w' := by
  unfold S32 at hn
  have hf : b.fdiv ((2 : Int) ^ 1) = b / 2 := by rw [Int.fdiv_eq_ediv_of_nonneg _ (by decide)]; rfl
  refine lawCeil_ok _ _ _ _ _ (LetI.id (by omega) (by omega) ⟨by omega, LetI.eq hf (LetI.id (by omega) (by omega) (LetI.id (by omega) (by omega) ?_))⟩)
  generalize hy : 1 + b / 2 = y
  have hy1 : 1 ≤ y ∧ y ≤ 2147483648 := by omega
  refine (ceil_ca a y w (by unfold In; omega)).mono ?_
  rintro e w1 ⟨rfl, rfl⟩
  have hc : ceilOf a y = (a + y - 1) / y := if_neg (by omega)
  rw [hc]
  obtain ⟨p1, p2, p3⟩ := ediv_parts (a + y - 1) y (by omega)
  have hq0 : 0 ≤ (a + y - 1) / y := Int.ediv_nonneg (by omega) (by omega)
  have hq1 : (a + y - 1) / y ≤ a + y - 1 := Int.ediv_le_self _ (by omega)
  generalize (a + y - 1) / y = q at *
  rw [Int.mul_comm] at p1
  have hr : ringOf n y = n % y := if_neg (by omega)
  have hr2 : ringOf (n + y) y = n % y := by rw [show ringOf (n + y) y = (n + y) % y from if_neg (by omega), Int.add_emod_right]
  obtain ⟨r1, r2, r3⟩ := ediv_parts n y (by omega)
  have hmod : (n - n % y).tmod y = 0 := by
    have : n - n % y = y * (n / y) := by omega
    rw [this]; exact Int.mul_tmod_right y (n / y)
  have tail : ∀ w9 : World, w9 = w1 → Ca Try.prog 16 #[.int .i64 n, .int .i64 y] w9 fun e15 w16 => ∃ n17 : Int, e15 = Ending.returned (Value.int IntKind.i64 n17) ∧ n17 = n % y ∧ w16 = w9 := by
    intro w9 _
    refine (ring_ca n y w9 (by unfold In; omega)).mono ?_
    rintro e w16 ⟨rfl, rfl⟩
    exact ⟨_, rfl, hr, rfl⟩
  have tail2 : ∀ w9 : World, w9 = w1 → Ca Try.prog 16 #[.int .i64 (n + y), .int .i64 y] w9 fun e15 w16 => ∃ n17 : Int, e15 = Ending.returned (Value.int IntKind.i64 n17) ∧ n17 = n % y ∧ w16 = w9 := by
    intro w9 _
    refine (ring_ca (n + y) y w9 (by unfold In; omega)).mono ?_
    rintro e w16 ⟨rfl, rfl⟩
    exact ⟨_, rfl, hr2, rfl⟩
  have fin : Ca Try.prog 18 #[] w1 fun e w' => ∃ b, e = .returned (.bool b) ∧ Ending.returned (.bool b) = .returned (.bool true) ∧ Kp No w1 w' := by
    refine (counted_ca w1).mono ?_
    rintro e w1 ⟨rfl, rfl⟩
    exact ⟨true, rfl, rfl, Kp.refl _ _⟩
  refine ⟨_, rfl, Br.neg (by simp; omega) (LetI.id (by omega) (by omega) (Br.neg (by simp; omega) (Br.intro (fun hq => ?_) (fun hq => ?_))))⟩
  · simp at hq
    have e1 : (q - 1) * y = q * y - y := by rw [Int.sub_mul, Int.one_mul]
    refine LetI.id (by omega) (by omega) (LetI.id (by omega) (by omega) (Br.neg (by simp; omega) (LetI.id (by omega) (by omega) ((tail _ rfl).mono ?_))))
    rintro e w16 ⟨n17, rfl, rfl, rfl⟩
    refine ⟨_, rfl, Br.pos (by simp; omega) (Br.pos (by simp; omega) (LetI.id (by omega) (by omega) (LetI.id (by omega) (by omega) ⟨by omega, LetI.eq hmod (Br.pos (by simp) (LetI.id (by omega) (by omega) (LetI.id (by omega) (by omega) ((tail2 _ rfl).mono ?_))))⟩)))⟩
    rintro e w24 ⟨n25, rfl, rfl, rfl⟩
    exact ⟨_, rfl, Br.pos (by simp) fin⟩
  · refine LetI.id (by omega) (by omega) ((tail _ rfl).mono ?_)
    rintro e w16 ⟨n17, rfl, rfl, rfl⟩
    refine ⟨_, rfl, Br.pos (by simp; omega) (Br.pos (by simp; omega) (LetI.id (by omega) (by omega) (LetI.id (by omega) (by omega) ⟨by omega, LetI.eq hmod (Br.pos (by simp) (LetI.id (by omega) (by omega) (LetI.id (by omega) (by omega) ((tail2 _ rfl).mono ?_))))⟩)))⟩
    rintro e w24 ⟨n25, rfl, rfl, rfl⟩
    exact ⟨_, rfl, Br.pos (by simp) fin⟩

theorem wf_i32 {n : Int} (h : (Lit.int .i32 n).wf = true) : S32 n := by
  simp [Lit.wf, IntKind.min, IntKind.max, IntKind.signed, IntKind.bits] at h; unfold S32; omega
theorem wf_u32 {n : Int} (h : (Lit.int .u32 n).wf = true) : 0 ≤ n ∧ n ≤ 4294967295 := by
  simp [Lit.wf, IntKind.min, IntKind.max, IntKind.signed, IntKind.bits] at h; omega

theorem NumsTell_law : Law Try.prog 3 Try.f3.params.toList := by
  intro W args hlen harg
  match args, hlen with
  | [v0, v1, v2], _ =>
    obtain ⟨a, rfl, ha⟩ := (harg 0 3 v0 rfl rfl).int Try.underlying3
    obtain ⟨b, rfl, hb⟩ := (harg 1 3 v1 rfl rfl).int Try.underlying3
    obtain ⟨c, rfl, _⟩ := (harg 2 3 v2 rfl rfl).int Try.underlying3
    exact tell_ca a b c W (wf_i64 ha) (wf_i64 hb)
theorem NumsWithin_law : Law Try.prog 4 Try.f4.params.toList := by
  intro W args hlen harg
  match args, hlen with
  | [v0, v1, v2], _ =>
    obtain ⟨a, rfl, ha⟩ := (harg 0 21 v0 rfl rfl).int Try.underlying21
    obtain ⟨b, rfl, hb⟩ := (harg 1 21 v1 rfl rfl).int Try.underlying21
    obtain ⟨c, rfl, hc⟩ := (harg 2 21 v2 rfl rfl).int Try.underlying21
    exact within_ca a b c W (wf_i32 ha) (wf_i32 hb) (wf_i32 hc)
theorem NumsCeil_law : Law Try.prog 5 Try.f5.params.toList := by
  intro W args hlen harg
  match args, hlen with
  | [v0, v1, v2], _ =>
    obtain ⟨a, rfl, ha⟩ := (harg 0 27 v0 rfl rfl).int Try.underlying27
    obtain ⟨b, rfl, hb⟩ := (harg 1 27 v1 rfl rfl).int Try.underlying27
    obtain ⟨c, rfl, hc⟩ := (harg 2 21 v2 rfl rfl).int Try.underlying21
    exact ceil_law a b c W (wf_u32 ha) (wf_u32 hb) (wf_i32 hc)
end Go.Proofs.Ytfmgjffdompohaa
