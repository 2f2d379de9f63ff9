/- The laws of chapter 6 return true. -/
import Derived.Test.YtffcgfhhlfbooaaB
import Derived.Test.YtffcgfhhlfbooaaV6
namespace Go.Proofs.Ytffcgfhhlfbooaa
open Go.Vc

def Yes (w : World) (e : Ending) (w' : World) : Prop := e = .returned (.bool true) ∧ w' = w

theorem gaps_ca (w : World) : Ca Try.prog 9 #[] w (Yes w) := by
  refine gaps_ok _ _ ((gap_ca 1 5 w (by omega)).mono ?_)
  rintro e w1 ⟨rfl, rfl⟩
  refine ⟨_, rfl, Br.pos (by decide) ((gap_ca 2 5 _ (by omega)).mono ?_)⟩
  rintro e w1 ⟨rfl, rfl⟩
  refine ⟨_, rfl, Br.pos (by decide) ((gap_ca 4 5 _ (by omega)).mono ?_)⟩
  rintro e w1 ⟨rfl, rfl⟩
  refine ⟨_, rfl, Br.pos (by decide) ((gap_ca 9 100 _ (by omega)).mono ?_)⟩
  rintro e w1 ⟨rfl, rfl⟩
  refine ⟨_, rfl, Br.pos (by decide) ((sum_ca 4 5 _).mono ?_)⟩
  rintro e w1 ⟨rfl, rfl⟩
  refine ⟨_, rfl, Br.pos (by decide) ((sum_ca 3 0 _).mono ?_)⟩
  rintro e w1 ⟨rfl, rfl⟩
  exact ⟨_, rfl, rfl, rfl⟩

theorem tell_ca (t m : Int) (w : World) (ht : t ≤ 9223372036854775807) : Ca Try.prog 3 #[.int .i64 t, .int .i64 m] w (Yes w) := by
  refine lawTell_ok _ _ _ _ ⟨fun k l w' => ∃ n : Nat, l = [.bool false, .int .i64 (n - 1)] ∧ k = 21 - n ∧ n ≤ 21 ∧ w' = w, ⟨21, 0, rfl, rfl, by omega, rfl⟩, ?_⟩
  rintro _ _ _ w ⟨n, hl, rfl, hn, rfl⟩
  obtain ⟨rfl, rfl⟩ : _ ∧ _ := by simpa using hl
  refine Br.intro (fun h3 => (gap_ca _ m _ (by omega)).mono ?_) (fun h3 => (gap_ca t m _ ht).mono ?_)
  · simp at h3
    rintro e w1 ⟨rfl, rfl⟩
    refine ⟨_, rfl, (rgap_ca _ m _ (by omega)).mono ?_⟩
    rintro e w1 ⟨rfl, rfl⟩
    refine ⟨_, rfl, Br.neg (by simp) ((sum_ca _ m _).mono ?_)⟩
    rintro e w1 ⟨rfl, rfl⟩
    refine ⟨_, rfl, (rsum_ca _ m _ (by omega)).mono ?_⟩
    rintro e w1 ⟨rfl, rfl⟩
    refine ⟨_, rfl, Br.neg (by simp) ((gap_ca _ t _ (by omega)).mono ?_)⟩
    rintro e w1 ⟨rfl, rfl⟩
    refine ⟨_, rfl, (rgap_ca _ t _ (by omega)).mono ?_⟩
    rintro e w1 ⟨rfl, rfl⟩
    exact ⟨_, rfl, Br.neg (by simp) (LetI.id (by omega) (by omega) ⟨21 - (n + 1), by omega, n + 1, by simp, rfl, by omega, rfl⟩)⟩
  · rintro e w1 ⟨rfl, rfl⟩
    refine ⟨_, rfl, (rgap_ca t m _ ht).mono ?_⟩
    rintro e w1 ⟨rfl, rfl⟩
    refine ⟨_, rfl, Br.pos (by simp) ((sum_ca t m _).mono ?_)⟩
    rintro e w1 ⟨rfl, rfl⟩
    refine ⟨_, rfl, (rsum_ca t m _ ht).mono ?_⟩
    rintro e w1 ⟨rfl, rfl⟩
    refine ⟨_, rfl, Br.pos (by simp) ((gaps_ca _).mono ?_)⟩
    rintro e w1 ⟨rfl, rfl⟩
    exact ⟨_, rfl, rfl, rfl⟩

theorem sumF_in {t : Int} (h : 1 ≤ t) (h' : t < 1000000) (m : Int) : 0 ≤ sumF t m ∧ sumF t m ≤ 100000000 := by
  have hm := topF_in m
  have hl := lenF_in (topF m)
  have hp := pow_le ⟨(min (min t 1099511627776) (lenF (topF m))).toNat, by omega⟩
  have hq : (0 : Int) < 2 ^ (min (min t 1099511627776) (lenF (topF m))).toNat := Int.pow_pos (by omega)
  simp only at hp
  have r0 := Int.mul_nonneg (show 0 ≤ min t 1099511627776 - min (min t 1099511627776) (lenF (topF m)) by omega) hm.1
  have r1 := Int.mul_le_mul (show min t 1099511627776 - min (min t 1099511627776) (lenF (topF m)) ≤ 1000000 by omega) hm.2 hm.1 (by omega)
  unfold sumF; split <;> omega

theorem sums_ca (s m : Int) (w : World) (h0 : 0 ≤ s) (h1 : s ≤ 65535) (h2 : 0 ≤ m) (h3 : m ≤ 255) : Ca Try.prog 4 #[.int .u16 s, .int .u8 m] w (Yes w) := by
  obtain ⟨g1, g2, g3, g4, g5, g6⟩ := good (t := 1 + s) (by omega) (by omega) m
  have hm : topF m = min m 64 := by unfold topF; omega
  have b1 := gapF_in (1 + s) m
  have b2 := gapF_in (1 + s + 1) m
  have fin : ∀ w', Br ((m == 0) == (gapF (1 + s) m == 0)) (Ca Try.prog 9 #[] w' fun e25 w26 => ∃ b27 : Bool, e25 = .returned (.bool b27) ∧ Yes w' (.returned (.bool b27)) w26) (Yes w' (.returned (.bool false)) w') := by
    intro w'
    refine Br.pos ?_ ((gaps_ca _).mono ?_)
    · by_cases h : m = 0
      · simp [h]; rw [← h]; omega
      · have : gapF (1 + s) m ≠ 0 := by omega
        rw [beq_eq_false_iff_ne.mpr h, beq_eq_false_iff_ne.mpr this]; rfl
    rintro e w1 ⟨rfl, rfl⟩
    exact ⟨_, rfl, rfl, rfl⟩
  refine lawSums_ok _ _ _ _ (LetI.id (by omega) (by omega) (LetI.id (by omega) (by omega) (LetI.id (by omega) (by omega) ((gap_ca _ m w (by omega)).mono ?_))))
  rintro e w1 ⟨rfl, rfl⟩
  refine ⟨_, rfl, LetI.id (by omega) (by omega) ((gap_ca _ m _ (by omega)).mono ?_)⟩
  rintro e w1 ⟨rfl, rfl⟩
  refine ⟨_, rfl, Br.neg (by simp; omega) (Br.neg (by simp; omega) (Br.neg (by simp; omega) (LetI.id (by omega) (by omega) ((sum_ca _ m _).mono ?_))))⟩
  rintro e w1 ⟨rfl, rfl⟩
  refine ⟨_, rfl, (sum_ca _ m _).mono ?_⟩
  rintro e w1 ⟨rfl, rfl⟩
  have hs := sumF_in (t := 1 + s) (by omega) (by omega) m
  refine ⟨_, rfl, LetI.id (by omega) (by omega) (Br.neg (by simp [g3]) ((sum_ca _ m _).mono ?_))⟩
  rintro e w1 ⟨rfl, rfl⟩
  refine ⟨_, rfl, Br.neg (by simp; omega) (LetI.eq rfl (Br.intro (fun h4 => fin _) (fun h4 => LetI.id (by omega) (by omega) (Br.pos (by simp at h4 ⊢; omega) (fin _)))))⟩

theorem wf_u16 {n : Int} (h : (Lit.int .u16 n).wf = true) : 0 ≤ n ∧ n ≤ 65535 := by
  simp [Lit.wf, IntKind.min, IntKind.max, IntKind.signed, IntKind.bits] at h; omega
theorem BackoffTell_law : Law Try.prog 3 Try.f3.params.toList := by
  intro W args hlen harg
  match args, hlen with
  | [v0, v1], _ =>
    obtain ⟨a, rfl, ha⟩ := (harg 0 3 v0 rfl rfl).int Try.underlying3
    obtain ⟨b, rfl, hb⟩ := (harg 1 3 v1 rfl rfl).int Try.underlying3
    exact (tell_ca a b W (wf_i64 ha).2).mono fun e w' h => ⟨h.1, h.2 ▸ Kp.refl _ _⟩
theorem BackoffSums_law : Law Try.prog 4 Try.f4.params.toList := by
  intro W args hlen harg
  match args, hlen with
  | [v0, v1], _ =>
    obtain ⟨a, rfl, ha⟩ := (harg 0 25 v0 rfl rfl).int Try.underlying25
    obtain ⟨b, rfl, hb⟩ := (harg 1 5 v1 rfl rfl).int Try.underlying5
    exact (sums_ca a b W (wf_u16 ha).1 (wf_u16 ha).2 (wf_u8 hb).1 (wf_u8 hb).2).mono fun e w' h => ⟨h.1, h.2 ▸ Kp.refl _ _⟩
end Go.Proofs.Ytffcgfhhlfbooaa
