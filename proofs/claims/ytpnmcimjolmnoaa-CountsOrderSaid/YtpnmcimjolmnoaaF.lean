/- The law CountsPlay. -/
import Derived.Test.YtpnmcimjolmnoaaE
namespace Go.Proofs.Ytpnmcimjolmnoaa
open Go.Vc

/-- the acts as they came in -/
def Acts (w : World) (p : Option Addr) (k : Nat) (F : Nat → Int × Int) : Prop :=
  ∀ j, j < k → ∃ a, p = some a ∧ a.block < w.heap.size ∧ w.cell? (a.add (j * 2)) = some (.int .i64 (F j).1) ∧ w.cell? ((a.add (j * 2)).add 1) = some (.int .i64 (F j).2) ∧ (F j).2 ≤ 9223372036854775807
theorem Acts.kp {w w' : World} {p : Option Addr} {k : Nat} {F : Nat → Int × Int} (h : Acts w p k F) (hk : Kp No w w') : Acts w' p k F := by
  intro j hj
  obtain ⟨a, ha, hb, h1, h2, h3⟩ := h j hj
  exact ⟨a, ha, Nat.lt_of_lt_of_le hb hk.size, hk.cell h1 (not_no _), hk.cell h2 (not_no _), h3⟩
theorem addF_len (L : List Int) (i by_ : Int) : (addF L i by_).1.length = L.length := by
  unfold addF; split
  · rfl
  · split <;> simp
set_option maxHeartbeats 1000000 in
theorem play_ca (n : Int) (p : Option Addr) (k k' : Nat) (F : Nat → Int × Int) (w : World) (hA : Acts w p k F) : Ca Try.prog 4 #[.int .i64 n, .slice p k k'] w (Yes w) := by
  refine lawPlay_ok _ _ _ _ _ _ (Br.intro (fun h1 => (added_ca w).mono ?_) fun h1 => ?_)
  · rintro e w1 ⟨rfl, hk⟩
    exact ⟨_, rfl, rfl, hk⟩
  simp at h1
  by_cases hn : n < 1 ∨ 64 < n
  · refine (new_bad n w hn).mono ?_
    rintro e w1 ⟨rfl, rfl⟩
    refine ⟨_, _, rfl, (rnew_bad n _ hn).mono ?_⟩
    rintro e w1 ⟨rfl, rfl⟩
    refine ⟨_, _, _, _, rfl, Br.neg rfl (Br.pos rfl (Br.pos rfl (Br.pos rfl ((added_ca _).mono ?_))))⟩
    rintro e w1 ⟨rfl, hk⟩
    exact ⟨_, rfl, rfl, hk⟩
  refine (new_good n w (by omega) (by omega)).mono ?_
  rintro e w1 ⟨b, g, rfl, hC1, hk1, hb, hg⟩
  refine ⟨_, _, rfl, (rnew_good n w1 (by omega) (by omega)).mono ?_⟩
  rintro e w2 ⟨gr, cr, rfl, hS2, hk2, hgr⟩
  refine ⟨_, _, _, _, rfl, Br.neg rfl (Br.neg rfl ?_)⟩
  refine ⟨fun z l w' => ∃ (i : Nat) (L : List Int) (r c : Nat), l = [.bool false, .slice (some ⟨r, 0, none⟩) L.length c, .int .i64 i] ∧ z = k - i ∧ i ≤ k ∧ Cn w' b g L ∧ Sl w' r 2 (Ints L) ∧ Kp No w w',
    ⟨k, 0, List.replicate n.toNat 0, gr, cr, by simp, rfl, by omega, hC1.kp hk2 (not_no _) (not_no _), hS2, hk1.trans hk2⟩, ?_⟩
  rintro _ _ _ _ _ _ w3 ⟨i, L, r, c, hl, rfl, hi, hC, hS, hK⟩
  obtain ⟨rfl, ⟨rfl, rfl, rfl⟩, rfl⟩ : _ ∧ (_ ∧ _ ∧ _) ∧ _ := by simpa using hl
  clear hl
  refine Br.intro (fun h4 => (copy_ca hC).mono ?_) (fun h4 => (same_ca hC hS).mono ?_)
  · simp at h4
    rintro e w4 ⟨b', g', rfl, hD4, hk4, hb', hg'⟩
    have hK4 := hK.trans hk4
    obtain ⟨a, rfl, ha, c1, c2, hby⟩ := hA.kp hK4 i h4
    refine ⟨_, rfl, ⟨by omega, by omega⟩, _, c1, ⟨by omega, by omega⟩, _, c2, ?_⟩
    have hC4 := hC.kp hk4 (not_no _) (not_no _)
    refine (add_ca hC4 _ _ hby).mono ?_
    rintro e w5 ⟨rfl, hC5, hk5⟩
    have hK5 := hK4.new1 hk5 hg
    obtain ⟨a', ha', _, c3, c4, _⟩ := hA.kp hK5 i h4
    obtain rfl : a = a' := by simpa using ha'
    refine ⟨_, _, rfl, ⟨by omega, by omega⟩, _, c3, ⟨by omega, by omega⟩, _, c4, ?_⟩
    have hne : g ≠ r := hC4.row.ne_ (hS.kp hk4 (not_no _)) (by decide)
    have hS5 := (hS.kp hk4 (not_no _)).kp hk5 (fun h => hne h.symm)
    have hgb : g < w3.heap.size := hC.row.lt
    have hbb : b < w3.heap.size := hC.head.lt
    have hD5 := hD4.kp hk5 (fun h => by unfold Vc.One at h; omega) (fun h => by unfold Vc.One at h; omega)
    refine (radd_ca hS5 hC.some_ hC.few hC.ok _ _ hby).mono ?_
    rintro e w6 ⟨r', c', rfl, hS6, hk6, _⟩
    refine ⟨_, _, _, _, _, rfl, Br.neg (by simp) (Br.neg (by simp) ((same_ca (hD5.kp hk6 (not_no _) (not_no _)) (hS5.kp hk6 (not_no _))).mono ?_))⟩
    rintro e w7 ⟨rfl, hk7⟩
    have hC7 := hC5.kp (hk6.trans hk7) (not_no _) (not_no _)
    have hlen := addF_len L (F i).1 (F i).2
    have hs := same_ca (c := c') hC7 (hS6.kp hk7 (not_no _))
    rw [hlen] at hs
    refine ⟨_, rfl, Br.neg rfl (hs.mono ?_)⟩
    rintro e w8 ⟨rfl, hk8⟩
    have hk68 := (hk6.trans hk7).trans hk8
    refine ⟨_, rfl, Br.neg rfl ((add_ca (hD5.kp hk68 (not_no _) (not_no _)) 0 5 (by omega)).mono ?_)⟩
    rintro e w9 ⟨rfl, _, hk9⟩
    refine ⟨_, _, rfl, LetI.id (by omega) (by omega) ⟨_, ?_, i + 1, (addF L (F i).1 (F i).2).1, r', c', ?_, rfl, by omega, ?_, ?_, ?_⟩⟩
    · omega
    · rw [hlen]; simp
    · exact (hC5.kp hk68 (not_no _) (not_no _)).kp hk9 (fun h => by unfold Vc.One at h; omega) (fun h => by unfold Vc.One at h; omega)
    · have hS8 := hS6.kp (hk7.trans hk8) (not_no _)
      have hD8 := (hD5.kp hk68 (not_no _) (not_no _)).row
      exact hS8.kp hk9 (fun h => hS8.ne_ hD8 (by decide) h)
    · have hK8 := hK5.trans hk68
      exact hK8.new1 hk9 (Nat.le_trans hK.size hg')
  · rintro e w4 ⟨rfl, hk4⟩
    refine ⟨_, rfl, Br.pos rfl ((added_ca _).mono ?_)⟩
    rintro e w5 ⟨rfl, hk5⟩
    exact ⟨_, rfl, rfl, (hK.trans hk4).trans hk5⟩
end Go.Proofs.Ytpnmcimjolmnoaa
