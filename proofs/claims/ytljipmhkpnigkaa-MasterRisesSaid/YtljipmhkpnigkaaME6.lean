/- MasterRises: for every input these laws return true, and what came in reads as it did. No condition. -/
import Derived.Test.YtljipmhkpnigkaaRows
import Derived.Test.YtljipmhkpnigkaaV6
import Derived.Test.YtljipmhkpnigkaaMK6
namespace Go.Proofs.Ytljipmhkpnigkaa
open Go.Vc

set_option maxRecDepth 100000 in
theorem MasterRises_lifted (os : Os) (started : os.Started) (H : Type) (enc : TypeId × Value → H) :
    ReturnsInHanded {} Try.checked os 6 .any (Rows.masterRisesSpec.pre6 enc Try.prog Try.f6 Rows.masterRisesRow.domain false) (Rows.masterRisesSpec.post enc Try.prog Try.f6 false true false false) :=
  law_lifted (C := Try.checked) (bt := 4) (by kernel_rfl) started (by kernel_rfl) Try.func6
    (ChangeSpec.witness6 (enc := enc) (C := Try.checked) false ⟨#[], #[.agg #[.int .i64 0, .int .i64 0, .int .i64 0, .slice none 0 0, .int .i64 0, .int .i64 0, .int .i64 0, .int .i64 0, .int .i64 0, .int .i64 0, .int .i64 0, .int .i64 0], .slice none 0 0, .slice none 0 0], []⟩ 8 (by kernel_rfl) (by kernel_rfl) (by kernel_rfl) (by kernel_rfl))
    (by kernel_rfl) (by kernel_rfl) rfl Try.underlying4 rfl (fun ds hd => by match ds, hd with | [_, _, _], _ => rfl) MasterRises_law

theorem MasterRises_holds : Rows.MasterRisesSaid :=
  OpenClaim.holds_of_wide 6 Try.f6 rfl rfl rfl rfl rfl rfl rfl ⟨rfl, rfl, rfl, rfl, rfl⟩ rfl rfl rfl rfl rfl (by kernel_rfl) Try.func6 (by kernel_rfl)
    (of_decide_eq_true (by kernel_rfl)) (by unfold Func.isWrapper; first | (rw [if_pos (by decide +kernel)]; kernel_rfl) | (rw [if_neg (by decide +kernel)]; exact ⟨rfl, rfl⟩))
    (fun os started H enc _ => MasterRises_lifted os started H enc)

end Go.Proofs.Ytljipmhkpnigkaa
