/- ClientOnce: for every input these laws return true, and what came in reads as it did. No condition. -/
import Derived.Test.YtljipmhkpnigkaaRows
import Derived.Test.YtljipmhkpnigkaaV6
import Derived.Test.YtljipmhkpnigkaaKK10
namespace Go.Proofs.Ytljipmhkpnigkaa
open Go.Vc

set_option maxRecDepth 100000 in
theorem ClientOnce_lifted (os : Os) (started : os.Started) (H : Type) (enc : TypeId × Value → H) :
    ReturnsInHanded {} Try.checked os 10 .any (Rows.clientOnceSpec.pre6 enc Try.prog Try.f10 Rows.clientOnceRow.domain false) (Rows.clientOnceSpec.post enc Try.prog Try.f10 false true false false) :=
  law_lifted (C := Try.checked) (bt := 4) (by kernel_rfl) started (by kernel_rfl) Try.func10
    (ChangeSpec.witness6 (enc := enc) (C := Try.checked) false ⟨#[], #[.agg #[.int .i64 0, .int .i64 0, .int .i64 0, .slice none 0 0, .int .i64 0, .int .i64 0, .int .i64 0, .int .i64 0, .int .i64 0, .int .i64 0, .int .i64 0, .int .i64 0], .int .u8 0, .slice none 0 0], []⟩ 8 (by kernel_rfl) (by kernel_rfl) (by kernel_rfl) (by kernel_rfl))
    (by kernel_rfl) (by kernel_rfl) rfl Try.underlying4 rfl (fun ds hd => by match ds, hd with | [_, _, _], _ => rfl) ClientOnce_law

theorem ClientOnce_holds : Rows.ClientOnceSaid :=
  OpenClaim.holds_of_wide 10 Try.f10 rfl rfl rfl rfl rfl rfl rfl ⟨rfl, rfl, rfl, rfl, rfl⟩ rfl rfl rfl rfl rfl (by kernel_rfl) Try.func10 (by kernel_rfl)
    (of_decide_eq_true (by kernel_rfl)) (by unfold Func.isWrapper; first | (rw [if_pos (by decide +kernel)]; kernel_rfl) | (rw [if_neg (by decide +kernel)]; exact ⟨rfl, rfl⟩))
    (fun os started H enc _ => ClientOnce_lifted os started H enc)

end Go.Proofs.Ytljipmhkpnigkaa
