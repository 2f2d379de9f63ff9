/- Package counts: the contracts of its methods. -/
import Derived.Test.YtpnmcimjolmnoaaA
namespace Go.Proofs.Ytpnmcimjolmnoaa
open Go.Vc

theorem at_eq (g k : Nat) : (⟨g, 0, none⟩ : Addr).add (k * 1) = ⟨g, k, none⟩ := by simp [Addr.add]; exact fun h => h.symm
structure Cn (w : World) (b g : Nat) (L : List Int) : Prop where
  head : Blk w b 45 #[.slice (some ⟨g, 0, none⟩) L.length L.length]
  row : Sl w g 51 (Ints L)
  some_ : 0 < L.length
  few : L.length ≤ 64
  ok : ∀ n ∈ L, 0 ≤ n ∧ n ≤ 4611686018427387904
theorem Cn.ne_ {w : World} {b g : Nat} {L : List Int} (h : Cn w b g L) : b ≠ g := by
  obtain ⟨tl, hr⟩ := h.row
  exact Blk.ne_ h.head hr (by decide)
theorem Cn.kp {w w' : World} {b g : Nat} {L : List Int} {S : Nat → Prop} (h : Cn w b g L) (k : Kp S w w') (h1 : ¬ S b) (h2 : ¬ S g) : Cn w' b g L :=
  ⟨h.head.kp k h1, h.row.kp k h2, h.some_, h.few, h.ok⟩

def getF (L : List Int) (i : Int) : Int := if i < 0 then 0 else L.getD i.toNat 0
theorem get_at {L : List Int} {i : Nat} (h : i < L.length) : L[i]? = some (getF L i) := by
  simp [getF, h]; intro h'; omega
theorem getF_in {L : List Int} {i : Int} (h : ∀ n ∈ L, 0 ≤ n ∧ n ≤ 4611686018427387904) : 0 ≤ getF L i ∧ getF L i ≤ 4611686018427387904 := by
  unfold getF
  split
  · omega
  · rw [List.getD_eq_getElem?_getD]
    cases hx : L[i.toNat]? with
    | none => simp
    | some v => simpa using h v (List.mem_of_getElem? hx)
def addV (L : List Int) (i by_ : Int) : Int := min (getF L i + by_) 4611686018427387904
/-- what Add answers, and what is left -/
def addF (L : List Int) (i by_ : Int) : List Int × Int × Int :=
  if by_ < 0 then (L, 0, 2) else if i < 0 ∨ (L.length : Int) ≤ i then (L, 0, 4) else (L.set i.toNat (addV L i by_), addV L i by_, 0)

theorem isnone_nil (w : World) : Ca Try.prog 15 #[.pointer none] w fun e w' => e = .returned (.bool true) ∧ w' = w :=
  isnone_ok _ _ _ (Br.pos rfl ⟨rfl, rfl⟩)
theorem isnone_empty {w : World} {b : Nat} (h : Blk w b 45 #[.slice none 0 0]) : Ca Try.prog 15 #[.pointer (some ⟨b, 0, none⟩)] w fun e w' => e = .returned (.bool true) ∧ w' = w :=
  isnone_ok _ _ _ (Br.neg rfl ⟨_, _, _, h.at_ rfl, rfl, rfl⟩)
theorem isnone_ca {w : World} {b g : Nat} {L : List Int} (h : Cn w b g L) : Ca Try.prog 15 #[.pointer (some ⟨b, 0, none⟩)] w fun e w' => e = .returned (.bool false) ∧ w' = w := by
  refine isnone_ok _ _ _ (Br.neg rfl ⟨_, _, _, h.head.at_ rfl, ?_, rfl⟩)
  have := h.some_
  rw [show ((L.length : Int) == 0) = false by rw [beq_eq_false_iff_ne]; omega]
theorem get_none {w : World} {p : Option Addr} (i : Int) (h : Ca Try.prog 15 #[.pointer p] w fun e w' => e = .returned (.bool true) ∧ w' = w) :
    Ca Try.prog 9 #[.pointer p, .int .i64 i] w fun e w' => e = .returned (.int .i64 0) ∧ w' = w := by
  refine get_ok _ _ _ _ (h.mono ?_)
  rintro e w1 ⟨rfl, rfl⟩
  exact ⟨_, rfl, Br.pos rfl ⟨rfl, rfl⟩⟩
theorem get_ca {w : World} {b g : Nat} {L : List Int} (h : Cn w b g L) (i : Int) :
    Ca Try.prog 9 #[.pointer (some ⟨b, 0, none⟩), .int .i64 i] w fun e w' => e = .returned (.int .i64 (getF L i)) ∧ w' = w := by
  refine get_ok _ _ _ _ ((isnone_ca h).mono ?_)
  rintro e w1 ⟨rfl, rfl⟩
  refine ⟨_, rfl, Br.neg rfl (Br.intro (fun h1 => ⟨?_, rfl⟩) fun h1 => ⟨_, _, _, h.head.at_ rfl, Br.intro (fun h2 => ⟨?_, rfl⟩) fun h2 => ⟨_, _, _, h.head.at_ rfl, ⟨?_, ?_⟩, ?_⟩⟩)⟩
  · simp at h1; simp [getF, h1]
  · simp at h1 h2
    unfold getF; rw [if_neg (by omega), List.getD_eq_getElem?_getD, List.getElem?_eq_none (by omega)]; rfl
  · simp at h1; omega
  · simp at h2; omega
  simp at h1 h2
  rw [at_eq]
  have hx : i.toNat < L.length := by omega
  have hg := get_at hx
  rw [show ((i.toNat : Nat) : Int) = i by omega] at hg
  refine (load_ca (h.row.get (ints_at hg))).mono ?_
  rintro e w1 ⟨rfl, rfl⟩
  exact ⟨_, rfl, rfl, rfl⟩
theorem add_none {w : World} {p : Option Addr} (i by_ : Int) (h : Ca Try.prog 15 #[.pointer p] w fun e w' => e = .returned (.bool true) ∧ w' = w) :
    Ca Try.prog 8 #[.pointer p, .int .i64 i, .int .i64 by_] w fun e w' => e = .returned (.tuple #[.int .i64 0, .int .i64 1]) ∧ w' = w := by
  refine add_ok _ _ _ _ _ (h.mono ?_)
  rintro e w1 ⟨rfl, rfl⟩
  exact ⟨_, rfl, Br.pos rfl ⟨rfl, rfl⟩⟩
theorem add_ca {w : World} {b g : Nat} {L : List Int} (h : Cn w b g L) (i by_ : Int) (hby : by_ ≤ 9223372036854775807) :
    Ca Try.prog 8 #[.pointer (some ⟨b, 0, none⟩), .int .i64 i, .int .i64 by_] w fun e w' =>
      e = .returned (.tuple #[.int .i64 (addF L i by_).2.1, .int .i64 (addF L i by_).2.2]) ∧ Cn w' b g (addF L i by_).1 ∧ Kp (One g) w w' := by
  refine add_ok _ _ _ _ _ ((isnone_ca h).mono ?_)
  rintro e w1 ⟨rfl, rfl⟩
  refine ⟨_, rfl, Br.neg rfl (Br.intro (fun h1 => ?_) fun h1 => Br.intro (fun h2 => ?_) fun h2 => ⟨_, _, _, h.head.at_ rfl, Br.intro (fun h3 => ?_) fun h3 => ?_⟩)⟩
  · simp at h1; rw [show addF L i by_ = (L, 0, 2) by simp [addF, h1]]; exact ⟨rfl, h, Kp.refl _ _⟩
  · simp at h1 h2; rw [show addF L i by_ = (L, 0, 4) by unfold addF; rw [if_neg (by omega), if_pos (by omega)]]; exact ⟨rfl, h, Kp.refl _ _⟩
  · simp at h1 h2 h3; rw [show addF L i by_ = (L, 0, 4) by unfold addF; rw [if_neg (by omega), if_pos (by omega)]]; exact ⟨rfl, h, Kp.refl _ _⟩
  simp at h1 h2 h3
  rw [show addF L i by_ = (L.set i.toNat (addV L i by_), addV L i by_, 0) by unfold addF; rw [if_neg (by omega), if_neg (by omega)]]
  have hin := getF_in (i := i) h.ok
  have hx : i.toNat < L.length := by omega
  have hg := get_at hx
  rw [show ((i.toNat : Nat) : Int) = i by omega] at hg
  refine ⟨fun _ _ w' => w' = w1, ⟨0, rfl⟩, ?_⟩
  rintro _ _ _ w ⟨rfl⟩
  refine ⟨_, _, _, h.head.at_ rfl, ⟨by omega, by omega⟩, ?_⟩
  rw [at_eq]
  refine (load_ca (h.row.get (ints_at hg))).mono ?_
  rintro e w1 ⟨rfl, rfl⟩
  refine ⟨_, rfl, LetI.id (by omega) (by omega) (LetI.eq rfl (LetI.id (by omega) (by omega) ⟨_, _, _, h.head.at_ rfl, ⟨by omega, by omega⟩, ?_⟩))⟩
  rw [at_eq]
  have hv : getF L i + min by_ (4611686018427387904 - getF L i) = addV L i by_ := by unfold addV; omega
  rw [hv]
  refine (cas_ca (F := fun t w' => t = true ∧ Cn w' b g (L.set i.toNat (addV L i by_)) ∧ Kp (One g) w1 w') (h.row.get (ints_at hg)) (h.row.wr (by rw [ints_len]; exact hx)).2 ?_).mono ?_
  · refine LetW.sl h.row (by rw [ints_len]; exact hx) fun w' hs hk => ⟨rfl, ⟨?_, ?_, ?_, ?_, ?_⟩, hk⟩
    · have := h.head.kp hk (fun hb => h.ne_ hb)
      simpa using this
    · rw [ints_set] at hs; exact hs
    · simpa using h.some_
    · simpa using h.few
    · intro n hn
      rcases List.mem_or_eq_of_mem_set hn with hn | rfl
      · exact h.ok n hn
      · unfold addV; omega
  · rintro e w2 ⟨t, rfl, rfl, hC, hk⟩
    exact ⟨_, rfl, Br.pos rfl ⟨rfl, hC, hk⟩⟩

theorem list_none {w : World} {p : Option Addr} (h : Ca Try.prog 15 #[.pointer p] w fun e w' => e = .returned (.bool true) ∧ w' = w) :
    Ca Try.prog 14 #[.pointer p] w fun e w' => e = .returned (.slice none 0 0) ∧ w' = w := by
  refine list__ok _ _ _ (h.mono ?_)
  rintro e w1 ⟨rfl, rfl⟩
  exact ⟨_, rfl, Br.pos rfl ⟨rfl, rfl⟩⟩
theorem copy_none {w : World} {p : Option Addr} (h : Ca Try.prog 15 #[.pointer p] w fun e w' => e = .returned (.bool true) ∧ w' = w) :
    Ca Try.prog 11 #[.pointer p] w fun e w' => e = .returned (.pointer none) ∧ w' = w := by
  refine copy__ok _ _ _ (h.mono ?_)
  rintro e w1 ⟨rfl, rfl⟩
  exact ⟨_, rfl, Br.pos rfl ⟨rfl, rfl⟩⟩
end Go.Proofs.Ytpnmcimjolmnoaa
