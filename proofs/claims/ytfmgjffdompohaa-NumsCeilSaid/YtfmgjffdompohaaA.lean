/- Sums, differences, products that stay within: plainly. No program is named. -/
import Derived.Test.YtfmgjffdompohaaV5
namespace Go.Proofs.Ytfmgjffdompohaa
open Go.Vc

def In (n : Int) : Prop := -9223372036854775808 ≤ n ∧ n ≤ 9223372036854775807
def sat (n : Int) : Int := max (-9223372036854775808) (min 9223372036854775807 n)
theorem sat_in {n : Int} (h : In n) : sat n = n := by unfold In at h; unfold sat; omega
theorem in_sat (n : Int) : In (sat n) := by unfold In sat; omega
theorem wrap_u64 (n : Int) : IntKind.u64.wrap n = n % 18446744073709551616 := by
  simp [IntKind.wrap, IntKind.bits, IntKind.signed]

/-- the quotient of a product, wrapped: what it tells -/
theorem mul_back {a b c q : Int} (ha : In a) (hb : In b) (hb0 : b ≠ 0) (hc : c = IntKind.i64.wrap (a * b)) (hq : q = IntKind.i64.wrap (c.tdiv b)) :
    (In (a * b) → c = a * b ∧ q = a) ∧ (q = a → ¬ (b = -1 ∧ a = -9223372036854775808) → In (a * b)) := by
  unfold In at *
  refine ⟨fun h => ?_, fun h1 h2 => ?_⟩
  · have e : c = a * b := by rw [hc, wrap_id h.1 h.2]
    refine ⟨e, ?_⟩
    rw [hq, e, Int.mul_tdiv_cancel _ hb0, wrap_id ha.1 ha.2]
  · have hcin : -9223372036854775808 ≤ c ∧ c ≤ 9223372036854775807 := by rw [hc, IntKind.wrap_i64]; omega
    have hdm : b * (c.tdiv b) + c.tmod b = c := Int.mul_tdiv_add_tmod c b
    have hm : (c.tmod b).natAbs < b.natAbs := by
      rw [Int.natAbs_tmod]
      exact Nat.mod_lt _ (by omega)
    have hqd : c.tdiv b = a := by
      by_cases hs : c = -9223372036854775808 ∧ b = -1
      · exfalso
        obtain ⟨h3, rfl⟩ := hs
        have : c.tdiv (-1) = 9223372036854775808 := by rw [h3]; decide
        rw [this, IntKind.wrap_i64] at hq
        exact h2 ⟨rfl, by omega⟩
      · have hb1 : -9223372036854775808 ≤ c.tdiv b ∧ c.tdiv b ≤ 9223372036854775807 := by
          have h4 := Int.natAbs_tdiv_le_natAbs c b
          by_cases h5 : c = -9223372036854775808
          · have h6 : b ≠ -1 := fun h => hs ⟨h5, h⟩
            by_cases h7 : b = 1
            · subst h7; rw [Int.tdiv_one]; exact hcin
            · have h8 : (c.tdiv b).natAbs * 2 ≤ c.natAbs := by
                have h9 : (c.tdiv b).natAbs = c.natAbs / b.natAbs := Int.natAbs_tdiv c b
                rw [h9]
                have h10 : 2 ≤ b.natAbs := by omega
                calc c.natAbs / b.natAbs * 2 ≤ c.natAbs / b.natAbs * b.natAbs := Nat.mul_le_mul_left _ h10
                  _ ≤ c.natAbs := Nat.div_mul_le_self _ _
              omega
          · omega
        rw [wrap_id hb1.1 hb1.2] at hq
        omega
    rw [hqd, Int.mul_comm] at hdm
    have hw : IntKind.i64.wrap (a * b) = c := hc.symm
    rw [IntKind.wrap_i64] at hw
    generalize a * b = p at *
    omega
end Go.Proofs.Ytfmgjffdompohaa
