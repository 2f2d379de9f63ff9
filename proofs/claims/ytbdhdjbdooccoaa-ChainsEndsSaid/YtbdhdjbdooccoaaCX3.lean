/- ChainsEnds, as a law of what comes in. -/
import Derived.Test.YtbdhdjbdooccoaaCK
import Derived.Test.YtbdhdjbdooccoaaCW2
namespace Go.Proofs.Ytbdhdjbdooccoaa
open Go.Vc Go.Codec

theorem ChainsEnds_law : Law Try.prog 8 Try.f8.params.toList := by
  intro W args hlen harg
  match args, hlen with
  | [v0, v1], _ =>
    obtain ⟨c, p, k, rfl, hm⟩ := chArg (harg 0 37 v0 rfl rfl)
    obtain ⟨n, rfl, _⟩ := (harg 1 3 v1 rfl rfl).int Try.underlying3
    exact lawCEnds_pw hm rfl n
end Go.Proofs.Ytbdhdjbdooccoaa
