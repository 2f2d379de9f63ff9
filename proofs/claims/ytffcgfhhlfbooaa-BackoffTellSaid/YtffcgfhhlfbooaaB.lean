/- The contracts of package backoff and of its reference. -/
import Derived.Test.YtffcgfhhlfbooaaD
import Derived.Test.YtffcgfhhlfbooaaA
namespace Go.Proofs.Ytffcgfhhlfbooaa
open Go.Vc

def Is (w : World) (n : Int) (e : Ending) (w' : World) : Prop := e = .returned (.int .i64 n) ∧ w' = w
theorem is_mk {w : World} {m n : Int} (h : m = n) : Is w n (.returned (.int .i64 m)) w := ⟨by rw [h], rfl⟩

theorem pow_le : ∀ k : Fin 17, (2 : Int) ^ k.val ≤ 65536 := by decide +kernel
theorem top_ca (m : Int) (w : World) : Ca Try.prog 10 #[.int .i64 m] w (Is w (topF m)) := top_ok _ _ _ (is_mk rfl)
theorem gap_ca (t m : Int) (w : World) (h' : t ≤ 9223372036854775807) : Ca Try.prog 5 #[.int .i64 t, .int .i64 m] w (Is w (gapF t m)) := by
  refine gap_ok _ _ _ _ (Br.intro (fun h1 => is_mk ?_) (fun h1 => LetI.id (by simp at h1; omega) (by simp at h1; omega) (LetI.eq rfl ⟨?_, LetI.id ?_ ?_ ((top_ca m w).mono ?_)⟩)))
  · simp at h1; unfold gapF; rw [if_pos (by omega)]
  · simp at h1; omega
  · have : (0 : Int) < 2 ^ (min (min (t - 1) 16).toNat 64) := Int.pow_pos (by omega)
    omega
  · have := pow_le ⟨min (min (t - 1) 16).toNat 64, by omega⟩
    simp only at this; omega
  rintro e w1 ⟨rfl, rfl⟩
  refine ⟨_, rfl, is_mk ?_⟩
  simp at h1; unfold gapF; rw [if_neg (by omega), Int.one_mul, show min (min (t - 1) 16).toNat 64 = (min (t - 1) 16).toNat by omega]

set_option maxRecDepth 100000 in
theorem len64_ca (m : Int) (w : World) (h0 : 0 ≤ m) (h1 : m ≤ 64) : Ca Try.prog 13 #[.int .u64 m] w (Is w (lenF m)) := by
  obtain ⟨f, rfl⟩ := fin_of h0 h1
  refine len64_ok _ _ _ ⟨fun l w' => l = [.int .u64 f.val, .int .i64 0] ∧ w' = w, Br.neg (by simp; omega) ⟨rfl, rfl⟩, ?_⟩
  rintro _ _ w ⟨hl, rfl⟩
  obtain ⟨rfl, rfl⟩ : _ ∧ _ := by simpa using hl
  clear hl
  refine ⟨fun l w' => l = [.int .u64 f.val, .int .i64 0] ∧ w' = w, Br.neg (by simp; omega) ⟨rfl, rfl⟩, ?_⟩
  rintro _ _ w ⟨hl, rfl⟩
  obtain ⟨rfl, rfl⟩ : _ ∧ _ := by simpa using hl
  clear hl
  refine ⟨fun l w' => l = [.int .u64 f.val, .int .i64 0] ∧ w' = w, Br.neg (by simp; omega) ⟨rfl, rfl⟩, ?_⟩
  rintro _ _ w ⟨hl, rfl⟩
  obtain ⟨rfl, rfl⟩ : _ ∧ _ := by simpa using hl
  clear hl
  refine LetI.eq (m := (f.val : Int)) (by rw [IntKind.wrap_u8]; omega) ⟨by omega, LetI.intro fun a ha => LetI.intro fun b hb => is_mk ?_⟩
  subst hb ha
  clear h0 h1
  revert f; decide +kernel

theorem len_ca (m : Int) (w : World) (h0 : 0 ≤ m) (h1 : m ≤ 64) : Ca Try.prog 11 #[.int .u64 m] w (Is w (lenF m)) := by
  refine len__ok _ _ _ ((len64_ca m w h0 h1).mono ?_)
  rintro e w1 ⟨rfl, rfl⟩
  exact ⟨_, rfl, is_mk rfl⟩

theorem prod_in {a b : Int} (ha : 0 ≤ a) (ha' : a ≤ 1099511627776) (hb : 0 ≤ b) (hb' : b ≤ 64) : 0 ≤ a * b ∧ a * b ≤ 70368744177664 :=
  ⟨Int.mul_nonneg ha hb, Int.mul_le_mul ha' hb' hb (by omega)⟩

theorem sum_ca (t m : Int) (w : World) : Ca Try.prog 7 #[.int .i64 t, .int .i64 m] w (Is w (sumF t m)) := by
  refine sum_ok _ _ _ _ ((top_ca m w).mono ?_)
  rintro e w1 ⟨rfl, rfl⟩
  have hm := topF_in m
  have hl := lenF_in (topF m)
  refine ⟨_, rfl, Br.intro (fun h1 => is_mk ?_) (fun h1 => Br.intro (fun h2 => is_mk ?_) (fun h2 => LetI.eq rfl (LetI.eq (m := topF m) ?_ ((len_ca _ _ hm.1 hm.2).mono ?_))))⟩
  · simp at h1; unfold sumF; rw [if_pos (by omega)]
  · simp at h2; unfold sumF; rw [if_pos (by omega)]
  · rw [IntKind.wrap_u64]; omega
  rintro e w2 ⟨rfl, rfl⟩
  simp at h1 h2
  have hp := pow_le ⟨(min (min t 1099511627776) (lenF (topF m))).toNat, by omega⟩
  have hq : (0 : Int) < 2 ^ (min (min t 1099511627776) (lenF (topF m))).toNat := Int.pow_pos (by omega)
  simp only at hp
  have hr := prod_in (a := min t 1099511627776 - min (min t 1099511627776) (lenF (topF m))) (by omega) (by omega) hm.1 hm.2
  refine ⟨_, rfl, LetI.eq rfl ⟨by omega, LetI.eq (m := 2 ^ (min (min t 1099511627776) (lenF (topF m))).toNat) ?_ (LetI.id (by omega) (by omega) (LetI.id (by omega) (by omega) (LetI.id (by omega) (by omega) (LetI.id (by omega) (by omega) (is_mk ?_)))))⟩⟩
  · rw [Int.one_mul, show min (min (min t 1099511627776) (lenF (topF m))).toNat 64 = (min (min t 1099511627776) (lenF (topF m))).toNat by omega]
    exact wrap_id (by omega) (by omega)
  · unfold sumF; rw [if_neg (by omega)]

theorem two_pow : ∀ k : Fin 7, (2 : Int) ^ (k.val + 1) = 2 * 2 ^ k.val ∧ (2 : Int) ^ k.val ≤ 64 := by decide +kernel

theorem rgap_ca (t m : Int) (w : World) (h : t ≤ 9223372036854775807) : Ca Try.prog 6 #[.int .i64 t, .int .i64 m] w (Is w (gapF t m)) := by
  refine rgap_ok _ _ _ _ ⟨fun l w' => l = [.int .i64 (min m 64)] ∧ w' = w, Br.intro (fun h1 => ⟨?_, rfl⟩) (fun h1 => ⟨?_, rfl⟩), ?_⟩
  · simp at h1; rw [show min m 64 = 64 by omega]
  · simp at h1; rw [show min m 64 = m by omega]
  rintro _ _ ⟨hl, rfl⟩
  obtain rfl : _ = _ := by simpa using hl
  refine Br.intro (fun h1 => is_mk ?_) (fun h1 => Br.intro (fun h2 => is_mk ?_) (fun h2 => ?_))
  · simp at h1; unfold gapF; rw [if_pos (by omega)]
  · simp at h1 h2
    have : (0 : Int) < 2 ^ (min (t - 1) 16).toNat := Int.pow_pos (by omega)
    unfold gapF topF; split <;> omega
  simp at h1 h2
  refine ⟨fun k l w' => ∃ n : Nat, l = [.int .i64 (2 ^ n), .int .i64 (n + 1)] ∧ k = 7 - n ∧ n ≤ 6 ∧ (n : Int) + 1 ≤ t ∧ w' = _, ⟨7, 0, rfl, rfl, by omega, by omega, rfl⟩, ?_⟩
  rintro _ _ _ _ ⟨n, hl, rfl, hn, ht, rfl⟩
  obtain ⟨rfl, rfl⟩ : _ ∧ _ := by simpa using hl
  obtain ⟨p1, p2⟩ := two_pow ⟨n, by omega⟩
  have p0 : (0 : Int) < 2 ^ n := Int.pow_pos (by omega)
  simp only at p1 p2
  have hG : gapF t m = min (2 ^ (min (t - 1) 16).toNat) (min m 64) := by unfold gapF topF; rw [if_neg (by omega)]; omega
  refine Br.intro (fun h3 => Br.intro (fun h4 => LetI.id (by omega) (by omega) (LetI.id (by omega) (by omega) ⟨7 - (n + 1), ?_, n + 1, ?_, rfl, ?_, ?_, rfl⟩)) (fun h4 => LetI.eq rfl (is_mk ?_))) (fun h3 => LetI.eq rfl (is_mk ?_))
  · omega
  · rw [p1]; simp
  · simp at h3 h4
    by_cases h6 : n = 6
    · subst h6; simp at h4; omega
    · omega
  · simp at h3; omega
  · simp at h3 h4
    obtain ⟨j, hj⟩ := Nat.le.dest (show n ≤ (min (t - 1) 16).toNat by omega)
    rw [hG, ← hj, Int.pow_add]
    have hj0 : (0 : Int) < 2 ^ j := Int.pow_pos (by omega)
    have := Int.mul_le_mul_of_nonneg_left (show (1 : Int) ≤ 2 ^ j by omega) (show (0 : Int) ≤ 2 ^ n by omega)
    omega
  · simp at h3
    rw [hG, show (min (t - 1) 16).toNat = n by omega]

theorem rsum_ca (t m : Int) (w : World) (h : t ≤ 9223372036854775807) : Ca Try.prog 8 #[.int .i64 t, .int .i64 m] w (Is w (sumF t m)) := by
  refine rsum_ok _ _ _ _ ⟨fun l w' => l = [.int .i64 (min t 1099511627776)] ∧ w' = w, Br.intro (fun h1 => ⟨?_, rfl⟩) (fun h1 => ⟨?_, rfl⟩), ?_⟩
  · simp at h1; rw [show min t 1099511627776 = 1099511627776 by omega]
  · simp at h1; rw [show min t 1099511627776 = t by omega]
  rintro _ _ ⟨hl, rfl⟩
  obtain rfl : _ = _ := by simpa using hl
  refine ⟨fun k l w' => ∃ n : Nat, l = [.int .i64 (addF m n), .int .i64 (n + 1)] ∧ k = 9 - n ∧ n ≤ 8 ∧ (n = 0 ∨ (n : Int) ≤ min t 1099511627776) ∧ w' = _, ⟨9, 0, rfl, rfl, by omega, .inl rfl, rfl⟩, ?_⟩
  rintro _ _ _ w ⟨n, hl, rfl, hn, ht, rfl⟩
  obtain ⟨rfl, rfl⟩ : _ ∧ _ := by simpa using hl
  have ha := addF_in m n
  have hm := topF_in m
  have tail : (n : Int) = 8 → min t 1099511627776 > 8 → LetI (IntKind.i64.wrap (min t 1099511627776 - 8)) fun n18 =>
      Ca Try.prog 6 #[.int .i64 9, .int .i64 m] w fun e19 w20 => ∃ n21 : Int, e19 = .returned (.int .i64 n21) ∧
      LetI (IntKind.i64.wrap (n18 * n21)) fun n22 => LetI (IntKind.i64.wrap (addF m n + n22)) fun n23 => Is w (sumF t m) (.returned (.int .i64 n23)) w20 := by
    intro h8 h9
    obtain rfl : n = 8 := by omega
    refine LetI.id (by omega) (by omega) ((rgap_ca 9 m _ (by omega)).mono ?_)
    rintro e w2 ⟨rfl, rfl⟩
    rw [gapF_big (by omega)]
    have hr := prod_in (a := min t 1099511627776 - 8) (by omega) (by omega) hm.1 hm.2
    exact ⟨_, rfl, LetI.id (by omega) (by omega) (LetI.id (by omega) (by omega) (is_mk (sumF_big (by omega) m)))⟩
  refine Br.intro (fun h3 => Br.intro (fun h4 => (rgap_ca _ m _ (by omega)).mono ?_) (fun h4 => Br.intro (fun h5 => tail (by simp at h4; omega) (by simpa using h5)) (fun h5 => is_mk ?_))) (fun h3 => Br.intro (fun h5 => tail (by simp at h3 h5; omega) (by simpa using h5)) (fun h5 => is_mk ?_))
  · rintro e w2 ⟨rfl, rfl⟩
    simp at h3 h4
    have hg := gapF_in (n + 1) m
    exact ⟨_, rfl, LetI.id (by omega) (by omega) (LetI.id (by omega) (by omega) ⟨9 - (n + 1), by omega, n + 1, by simp [addF], rfl, by omega, by omega, rfl⟩)⟩
  · simp at h3 h4 h5
    rw [addF_small m hn, ← sumF_cap, ← sumF_cap (t := t)]
    omega
  · simp at h3 h5
    by_cases h6 : n = 0
    · subst h6; rw [sumF_none (by omega)]; rfl
    · rw [addF_small m hn, ← sumF_cap (t := t)]
      rw [show min t 1099511627776 = n by omega]
end Go.Proofs.Ytffcgfhhlfbooaa
