/- Sums that stop at a bound do not ask for the order: the plain part of CountsOrder. -/
import Derived.Test.YtpnmcimjolmnoaaB
namespace Go.Proofs.Ytpnmcimjolmnoaa
open Go.Vc

def sumTo (f : Nat → Int) : Nat → Int
  | 0 => 0
  | n + 1 => sumTo f n + f n
theorem sumTo_shift (g : Nat → Int) (k : Nat) : sumTo (fun j => g (j + 1)) k = sumTo g k - g 0 + g k := by
  induction k with
  | zero => simp only [sumTo]; omega
  | succ n ih => simp only [sumTo]; omega
theorem sumTo_ext {f g : Nat → Int} : ∀ {k : Nat}, (∀ j, j < k → f j = g j) → sumTo f k = sumTo g k
  | 0, _ => rfl
  | k + 1, h => by
    simp only [sumTo]
    rw [sumTo_ext fun j hj => h j (by omega), h k (by omega)]
theorem sumTo_turn (f : Nat → Int) {k : Nat} (d : Nat) : sumTo (fun j => f ((j + d) % k)) k = sumTo f k := by
  induction d with
  | zero => exact sumTo_ext fun j hj => by simp [Nat.mod_eq_of_lt hj]
  | succ d ih =>
    have := sumTo_shift (fun j => f ((j + d) % k)) k
    simp only [Nat.zero_add] at this
    rw [Nat.add_mod_left] at this
    rw [sumTo_ext (g := fun j => f ((j + 1 + d) % k)) (fun j _ => by rw [show j + (d + 1) = j + 1 + d by omega]), this, ih]
    omega
theorem sumTo_nonneg {f : Nat → Int} (h : ∀ j, 0 ≤ f j) (k : Nat) : 0 ≤ sumTo f k := by
  induction k with
  | zero => simp [sumTo]
  | succ n ih => have := h n; simp only [sumTo]; omega

/-- the number by which an act asks for a counter -/
def ix (x : Int) : Int := IntKind.i64.wrap ((BitVec.ofInt 64 x &&& BitVec.ofInt 64 3).toNat : Int)
theorem ix_in (x : Int) : 0 ≤ ix x ∧ ix x ≤ 3 := by
  have : (BitVec.ofInt 64 x &&& BitVec.ofInt 64 3).toNat ≤ 3 := by
    rw [BitVec.toNat_and]
    exact Nat.and_le_right
  unfold ix
  rw [IntKind.wrap_i64]
  omega
/-- what an act asks of counter i -/
def asks (i : Nat) (xy : Int × Int) : Int := if ix xy.1 = i ∧ 0 ≤ xy.2 then xy.2 else 0
theorem asks_nonneg (i : Nat) (xy : Int × Int) : 0 ≤ asks i xy := by unfold asks; split <;> omega
/-- these four counters hold the sums of n acts -/
def Holds (L : List Int) (f : Nat → Int × Int) (n : Nat) : Prop := L.length = 4 ∧ ∀ i, i < 4 → getF L (i : Nat) = min 4611686018427387904 (sumTo (fun j => asks i (f j)) n)
theorem holds_zero (f : Nat → Int × Int) : Holds (List.replicate 4 0) f 0 := by
  refine ⟨by simp, fun i hi => ?_⟩
  have : getF (List.replicate 4 0) (i : Nat) = 0 := by
    match i, hi with
    | 0, _ => decide
    | 1, _ => decide
    | 2, _ => decide
    | 3, _ => decide
  rw [this]
  simp only [sumTo]
  omega
theorem getF_nat (L : List Int) (j : Nat) : getF L (j : Nat) = L.getD j 0 := by
  unfold getF
  have : ¬ ((j : Int) < 0) := by omega
  rw [if_neg this, Int.toNat_natCast]
theorem getF_set {L : List Int} {i j : Nat} (hi : i < L.length) (v : Int) : getF (L.set i v) (j : Nat) = if i = j then v else getF L (j : Nat) := by
  rw [getF_nat, getF_nat, List.getD_eq_getElem?_getD, List.getD_eq_getElem?_getD, List.getElem?_set]
  by_cases h : i = j
  · subst h; simp [hi]
  · simp [h]
theorem holds_step {L : List Int} {f : Nat → Int × Int} {n : Nat} (h : Holds L f n) : Holds (addF L (ix (f n).1) (f n).2).1 f (n + 1) := by
  obtain ⟨hl, hg⟩ := h
  have hx := ix_in (f n).1
  unfold addF
  by_cases h1 : (f n).2 < 0
  · rw [if_pos h1]
    refine ⟨hl, fun i hi => ?_⟩
    rw [hg i hi]
    simp only [sumTo]
    rw [show asks i (f n) = 0 by unfold asks; rw [if_neg (by omega)]]
    omega
  · rw [if_neg h1, if_neg (by omega)]
    refine ⟨by simpa using hl, fun i hi => ?_⟩
    rw [getF_set (by omega)]
    simp only [sumTo]
    have hnn := sumTo_nonneg (fun j => asks_nonneg i (f j)) n
    by_cases h2 : (ix (f n).1).toNat = i
    · rw [if_pos h2, show asks i (f n) = (f n).2 by unfold asks; rw [if_pos (by omega)]]
      unfold addV
      have := hg i hi
      rw [show ix (f n).1 = (i : Int) by omega, this]
      omega
    · rw [if_neg h2, hg i hi, show asks i (f n) = 0 by unfold asks; rw [if_neg (by omega)]]
      omega
theorem holds_turn {L M : List Int} {f : Nat → Int × Int} {k d : Nat} (h : Holds L f k) (h' : Holds M (fun j => f ((j + d) % k)) k) : ∀ i, i < 4 → getF L (i : Nat) = getF M (i : Nat) := by
  intro i hi
  rw [h.2 i hi, h'.2 i hi]
  rw [sumTo_turn (fun j => asks i (f j)) d]
end Go.Proofs.Ytpnmcimjolmnoaa
