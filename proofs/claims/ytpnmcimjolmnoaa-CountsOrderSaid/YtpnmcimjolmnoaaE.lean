/- same and added return true; the laws CountsNone and CountsPlay. -/
import Derived.Test.YtpnmcimjolmnoaaC
import Derived.Test.YtpnmcimjolmnoaaV6
namespace Go.Proofs.Ytpnmcimjolmnoaa
open Go.Vc

def Yes (w : World) (e : Ending) (w' : World) : Prop := e = .returned (.bool true) ∧ Kp No w w'

theorem same_ca {w : World} {b g gr c : Nat} {L : List Int} (h : Cn w b g L) (hr : Sl w gr 2 (Ints L)) :
    Ca Try.prog 13 #[.pointer (some ⟨b, 0, none⟩), .slice (some ⟨gr, 0, none⟩) L.length c] w (Yes w) := by
  refine same_ok _ _ _ _ _ _ ((list_ca h).mono ?_)
  rintro e w1 ⟨gl, cl, rfl, hl1, hk1, hg1⟩
  refine ⟨_, _, _, rfl, Br.neg (by simp) ⟨fun k l w' => ∃ (i : Nat) (M : List Int), l = [.bool false, .int .i64 i] ∧ k = L.length - i ∧ i ≤ L.length ∧ M.length = L.length ∧ (∀ j, i ≤ j → M[j]? = L[j]?) ∧ Sl w' gl 2 (Ints M) ∧ Kp No w w',
    ⟨L.length, 0, L, rfl, rfl, by omega, rfl, fun _ _ => rfl, hl1, hk1⟩, ?_⟩⟩
  rintro _ _ _ w2 ⟨i, M, hl, rfl, hi, hM, hMj, hS, hK⟩
  obtain ⟨rfl, rfl⟩ : _ ∧ _ := by simpa using hl
  have hf := h.few
  have h2 := h.kp hK (not_no _) (not_no _)
  have hr2 := hr.kp hK (not_no _)
  refine Br.intro (fun h4 => ?_) (fun h4 => (get_ca h2 (-1)).mono ?_)
  · simp at h4
    have hg := get_at h4
    simp only [NilOk, Int.toNat_natCast, at_eq]
    refine ⟨⟨by omega, by omega⟩, _, hS.get (ints_at ((hMj i (Nat.le_refl _)).trans hg)), ⟨by omega, by omega⟩, _, hr2.get (ints_at hg), Br.neg (by simp) ⟨⟨by omega, by omega⟩, _, hr2.get (ints_at hg), (get_ca h2 i).mono ?_⟩⟩
    rintro e w3 ⟨rfl, rfl⟩
    have hlen : i < (Ints M).length := by rw [ints_len]; omega
    refine ⟨_, rfl, hr2.get (ints_at hg), Br.neg (by simp) ⟨⟨by omega, by omega⟩, hS.wr hlen, LetW.sl hS hlen fun w4 hS4 hk4 => LetI.id (by omega) (by omega) ⟨_, ?_, i + 1, M.set i (-1), ?_, rfl, by omega, by simpa using hM, ?_, ?_, ?_⟩⟩⟩
    · omega
    · simp
    · intro j hj
      rw [List.getElem?_set_ne (by omega)]
      exact hMj j (by omega)
    · rw [ints_set] at hS4; exact hS4
    · exact hK.new1 hk4 hg1
  · rintro e w3 ⟨rfl, rfl⟩
    refine ⟨_, rfl, Br.pos (by simp [getF]) ((get_ca h2 _).mono ?_)⟩
    rintro e w3 ⟨rfl, rfl⟩
    refine ⟨_, rfl, ?_, hK⟩
    simp [getF]

theorem One.no {g : Nat} {w w1 w2 : World} (h : Kp No w w1) (k : Kp (One g) w1 w2) (hg : w.heap.size ≤ g) : Kp No w w2 := h.new1 k hg

theorem added_ca (w : World) : Ca Try.prog 6 #[] w (Yes w) := by
  refine added_ok _ _ ((new_good 2 w (by omega) (by omega)).mono ?_)
  rintro e w1 ⟨b, g, rfl, h1, k1, _, hg⟩
  refine ⟨_, _, rfl, (add_ca h1 1 5 (by omega)).mono ?_⟩
  rw [show addF (List.replicate (2 : Int).toNat 0) 1 5 = ([0, 5], 5, 0) by decide]
  rintro e w2 ⟨rfl, h2, k2⟩
  refine ⟨_, _, rfl, (add_ca h2 1 4611686018427387904 (by omega)).mono ?_⟩
  rw [show addF [0, 5] 1 4611686018427387904 = ([0, 4611686018427387904], 4611686018427387904, 0) by decide]
  rintro e w3 ⟨rfl, h3, k3⟩
  refine ⟨_, _, rfl, (add_ca h3 2 1 (by omega)).mono ?_⟩
  rw [show addF [0, 4611686018427387904] 2 1 = ([0, 4611686018427387904], 0, 4) by decide]
  rintro e w4 ⟨rfl, h4, k4⟩
  refine ⟨_, _, rfl, (add_ca h4 0 (-1) (by omega)).mono ?_⟩
  rw [show addF [0, 4611686018427387904] 0 (-1) = ([0, 4611686018427387904], 0, 2) by decide]
  rintro e w5 ⟨rfl, h5, k5⟩
  refine ⟨_, _, rfl, (list_ca h5).mono ?_⟩
  rintro e w6 ⟨gl, cl, rfl, h6, k6, _⟩
  refine ⟨_, _, _, rfl, Br.pos rfl (Br.pos rfl (Br.pos rfl (Br.pos rfl (Br.pos rfl (Br.pos rfl (Br.pos rfl (Br.pos rfl ?_)))))))⟩
  have c0 : w6.cell? ⟨gl, 0, none⟩ = some (.int .i64 0) := h6.get rfl
  have c1 : w6.cell? ⟨gl, 1, none⟩ = some (.int .i64 4611686018427387904) := h6.get rfl
  refine ⟨⟨by omega, by decide⟩, _, c0, Br.pos rfl ⟨⟨by omega, by decide⟩, _, c1, rfl, ?_⟩⟩
  exact ((One.no (One.no (One.no (One.no k1 k2 hg) k3 hg) k4 hg) k5 hg)).trans k6

theorem none_ca (x y : Int) (w : World) : Ca Try.prog 5 #[.agg #[.int .i64 x, .int .i64 y]] w (Yes w) := by
  refine lawNone_ok _ _ _ _ (LetA.blk fun b3 w4 hb3 hB3 hk4 => ⟨fun k l w' => ∃ (n : Nat) (p : Option Addr), l = [.bool false, .pointer p, .int .i64 n] ∧ k = 2 - n ∧ n ≤ 2 ∧ Blk w' b3 29 #[.int .i64 x, .int .i64 y] ∧ Kp No w w' ∧
      (p = none ∨ ∃ b, p = some ⟨b, 0, none⟩ ∧ Blk w' b 45 #[.slice none 0 0]), ⟨2, 0, none, rfl, rfl, by omega, hB3, hk4, .inl rfl⟩, ?_⟩)
  rintro _ p _ _ w5 ⟨n, p', hl, rfl, hn, hB, hK, hp⟩
  obtain ⟨rfl, hpp, rfl⟩ : _ ∧ p = p' ∧ _ := by simpa using hl
  subst hpp
  refine Br.intro (fun h4 => ⟨_, hB.at_ rfl, _, hB.at_ rfl, ?_⟩) (fun h4 => (added_ca _).mono ?_)
  · simp at h4
    have hnone : Ca Try.prog 15 #[.pointer p] w5 fun e w' => e = .returned (.bool true) ∧ w' = w5 := by
      rcases hp with rfl | ⟨b, rfl, hb⟩
      · exact isnone_nil w5
      · exact isnone_empty hb
    refine (add_none _ _ hnone).mono ?_
    rintro e w6 ⟨rfl, rfl⟩
    refine ⟨_, _, rfl, Br.neg rfl (Br.neg rfl ⟨_, hB.at_ rfl, (get_none _ hnone).mono ?_⟩)⟩
    rintro e w6 ⟨rfl, rfl⟩
    refine ⟨_, rfl, Br.neg rfl ((list_none hnone).mono ?_)⟩
    rintro e w6 ⟨rfl, rfl⟩
    refine ⟨_, _, _, rfl, Br.neg rfl ((copy_none hnone).mono ?_)⟩
    rintro e w6 ⟨rfl, rfl⟩
    refine ⟨_, rfl, Br.neg rfl (LetA.blk fun b7 w7 hb7 hB7 hk7 => LetI.id (by omega) (by omega) ⟨_, ?_, n + 1, _, ?_, rfl, by omega, hB.kp hk7 (not_no _), hK.trans hk7, .inr ⟨b7, rfl, hB7⟩⟩)⟩
    · omega
    · simp
  · rintro e w6 ⟨rfl, hk⟩
    exact ⟨_, rfl, rfl, hK.trans hk⟩
end Go.Proofs.Ytpnmcimjolmnoaa
