/- SetupsTell, as a law of what comes in. -/
import Derived.Test.YtljipmhkpnigkaaU5
import Derived.Test.YtljipmhkpnigkaaUK
namespace Go.Proofs.Ytljipmhkpnigkaa
open Go.Vc Go.Codec

theorem SetupsTell_law : Law Try.prog 3 Try.f3.params.toList := by
  intro W args hlen harg
  match args, hlen with
  | [v0], _ =>
    obtain ⟨c, p, k, rfl, hM, hk, hk'⟩ := cfArg (harg 0 24 v0 rfl rfl)
    exact lawSTell_pw hM rfl hk hk'
end Go.Proofs.Ytljipmhkpnigkaa
