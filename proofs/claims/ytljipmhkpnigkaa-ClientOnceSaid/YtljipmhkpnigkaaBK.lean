/- Package backoff: how long is waited behind a try: the contract. -/
import Derived.Test.YtljipmhkpnigkaaDB
import Derived.Test.YtljipmhkpnigkaaV5
namespace Go.Proofs.Ytljipmhkpnigkaa
open Go.Vc

def topF (m : Int) : Int := max 0 (min m 64)
def gapF (t m : Int) : Int := if t < 1 then 0 else min (2 ^ (min (t - 1) 16).toNat) (topF m)
theorem gapF_in (t m : Int) : 0 ≤ gapF t m ∧ gapF t m ≤ 64 := by
  unfold gapF topF
  have : (0 : Int) < 2 ^ (min (t - 1) 16).toNat := Int.pow_pos (by omega)
  split <;> omega
def Is (w : World) (n : Int) (e : Ending) (w' : World) : Prop := e = .returned (.int .i64 n) ∧ w' = w
theorem is_mk {w : World} {m n : Int} (h : m = n) : Is w n (.returned (.int .i64 m)) w := ⟨by rw [h], rfl⟩
theorem pow_le : ∀ k : Fin 17, (2 : Int) ^ k.val ≤ 65536 := by decide +kernel
theorem top_ca (m : Int) (w : World) : Ca Try.prog 102 #[.int .i64 m] w (Is w (topF m)) := by
  refine btop_ok _ _ _ ?_
  unfold btop
  repeat refine LetI.of ?_
  exact is_mk rfl
theorem gap_ca (t m : Int) (w : World) (h' : t ≤ 9223372036854775807) : Ca Try.prog 96 #[.int .i64 t, .int .i64 m] w (Is w (gapF t m)) := by
  refine bgap_ok _ _ _ _ (Br.intro (fun h1 => is_mk ?_) (fun h1 => LetI.id (by simp at h1; omega) (by simp at h1; omega) (LetI.eq rfl ⟨?_, LetI.id ?_ ?_ ((top_ca m w).mono ?_)⟩)))
  · simp at h1; unfold gapF; rw [if_pos (by omega)]
  · simp at h1; omega
  · have : (0 : Int) < 2 ^ (min (min (t - 1) 16).toNat 64) := Int.pow_pos (by omega)
    omega
  · have := pow_le ⟨min (min (t - 1) 16).toNat 64, by omega⟩
    simp only at this; omega
  rintro e w1 ⟨rfl, rfl⟩
  refine ⟨_, rfl, LetI.of (is_mk ?_)⟩
  simp at h1; unfold gapF; rw [if_neg (by omega), Int.one_mul, show min (min (t - 1) 16).toNat 64 = (min (t - 1) 16).toNat by omega]
end Go.Proofs.Ytljipmhkpnigkaa
