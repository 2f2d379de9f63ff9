/- TransferWhole: for every input these laws return true, and what came in reads as it did. No condition. -/
import Derived.Test.YtdiejbojobbboaaRows
import Derived.Test.YtdiejbojobbboaaV6
import Derived.Test.YtdiejbojobbboaaTX
namespace Go.Proofs.Ytdiejbojobbboaa
open Go.Vc

set_option maxRecDepth 100000 in
theorem TransferWhole_lifted (os : Os) (started : os.Started) (H : Type) (enc : TypeId × Value → H) :
    ReturnsInHanded {} Try.checked os 5 .any (Rows.transferWholeSpec.pre6 enc Try.prog Try.f5 Rows.transferWholeRow.domain false) (Rows.transferWholeSpec.post enc Try.prog Try.f5 false true false false) :=
  law_lifted (C := Try.checked) (bt := 4) (by kernel_rfl) started (by kernel_rfl) Try.func5
    (ChangeSpec.witness6 (enc := enc) (C := Try.checked) false ⟨#[], #[.string ⟨#[]⟩, .agg #[.int .u8 0, .int .u8 0], .slice none 0 0], []⟩ 8 (by kernel_rfl) (by kernel_rfl) (by kernel_rfl) (by kernel_rfl))
    (by kernel_rfl) (by kernel_rfl) rfl Try.underlying4 rfl (fun ds hd => by match ds, hd with | [_, _, _], _ => rfl) TransferWhole_law

theorem TransferWhole_holds : Rows.TransferWholeSaid :=
  OpenClaim.holds_of_wide 5 Try.f5 rfl rfl rfl rfl rfl rfl rfl ⟨rfl, rfl, rfl, rfl, rfl⟩ rfl rfl rfl rfl rfl (by kernel_rfl) Try.func5 (by kernel_rfl)
    (of_decide_eq_true (by kernel_rfl)) (by unfold Func.isWrapper; first | (rw [if_pos (by decide +kernel)]; kernel_rfl) | (rw [if_neg (by decide +kernel)]; exact ⟨rfl, rfl⟩))
    (fun os started H enc _ => TransferWhole_lifted os started H enc)

end Go.Proofs.Ytdiejbojobbboaa
