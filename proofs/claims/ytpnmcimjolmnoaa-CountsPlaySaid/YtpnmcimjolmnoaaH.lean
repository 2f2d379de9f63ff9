/- CountsPlay, CountsNone: for every input these laws return true, and what came in reads as it did. No condition. -/
import Derived.Test.YtpnmcimjolmnoaaRows
import Derived.Test.YtpnmcimjolmnoaaV6
import Derived.Test.YtpnmcimjolmnoaaG
namespace Go.Proofs.Ytpnmcimjolmnoaa
open Go.Vc

set_option maxRecDepth 100000 in
theorem CountsPlay_lifted (os : Os) (started : os.Started) (H : Type) (enc : TypeId × Value → H) :
    ReturnsInHanded {} Try.checked os 4 .any (Rows.countsPlaySpec.pre6 enc Try.prog Try.f4 Rows.countsPlayRow.domain false) (Rows.countsPlaySpec.post enc Try.prog Try.f4 false true false false) :=
  law_lifted (C := Try.checked) (bt := 4) (by kernel_rfl) started (by kernel_rfl) Try.func4
    (ChangeSpec.witness6 (enc := enc) (C := Try.checked) false ⟨#[], #[.int .i64 0, .slice none 0 0], []⟩ 8 (by kernel_rfl) (by kernel_rfl) (by kernel_rfl) (by kernel_rfl))
    (by kernel_rfl) (by kernel_rfl) rfl Try.underlying4 rfl (fun ds hd => by match ds, hd with | [_, _], _ => rfl) CountsPlay_law

theorem CountsPlay_holds : Rows.CountsPlaySaid :=
  OpenClaim.holds_of_wide 4 Try.f4 rfl rfl rfl rfl rfl rfl rfl ⟨rfl, rfl, rfl, rfl, rfl⟩ rfl rfl rfl rfl rfl (by kernel_rfl) Try.func4 (by kernel_rfl)
    (of_decide_eq_true (by kernel_rfl)) (by unfold Func.isWrapper; first | (rw [if_pos (by decide +kernel)]; kernel_rfl) | (rw [if_neg (by decide +kernel)]; exact ⟨rfl, rfl⟩))
    (fun os started H enc _ => CountsPlay_lifted os started H enc)

set_option maxRecDepth 100000 in
theorem CountsNone_lifted (os : Os) (started : os.Started) (H : Type) (enc : TypeId × Value → H) :
    ReturnsInHanded {} Try.checked os 5 .any (Rows.countsNoneSpec.pre6 enc Try.prog Try.f5 Rows.countsNoneRow.domain false) (Rows.countsNoneSpec.post enc Try.prog Try.f5 false true false false) :=
  law_lifted (C := Try.checked) (bt := 4) (by kernel_rfl) started (by kernel_rfl) Try.func5
    (ChangeSpec.witness6 (enc := enc) (C := Try.checked) false ⟨#[], #[.agg #[.int .i64 0, .int .i64 0]], []⟩ 8 (by kernel_rfl) (by kernel_rfl) (by kernel_rfl) (by kernel_rfl))
    (by kernel_rfl) (by kernel_rfl) rfl Try.underlying4 rfl (fun ds hd => by match ds, hd with | [_], _ => rfl) CountsNone_law

theorem CountsNone_holds : Rows.CountsNoneSaid :=
  OpenClaim.holds_of_wide 5 Try.f5 rfl rfl rfl rfl rfl rfl rfl ⟨rfl, rfl, rfl, rfl, rfl⟩ rfl rfl rfl rfl rfl (by kernel_rfl) Try.func5 (by kernel_rfl)
    (of_decide_eq_true (by kernel_rfl)) (by unfold Func.isWrapper; first | (rw [if_pos (by decide +kernel)]; kernel_rfl) | (rw [if_neg (by decide +kernel)]; exact ⟨rfl, rfl⟩))
    (fun os started H enc _ => CountsNone_lifted os started H enc)

end Go.Proofs.Ytpnmcimjolmnoaa
