/- FramesGet, as a law of what comes in. -/
import Derived.Test.YtbdhdjbdooccoaaFH
import Derived.Test.YtbdhdjbdooccoaaV6
namespace Go.Proofs.Ytbdhdjbdooccoaa
open Go.Vc Go.Codec

theorem FramesGet_law : Law Try.prog 11 Try.f11.params.toList := by
  intro W args hlen harg
  match args, hlen with
  | [v0], _ =>
    obtain ⟨s, rfl, _⟩ := (harg 0 9 v0 rfl rfl).string Try.underlying9
    obtain ⟨l, rfl⟩ := mk_of s
    exact lawFGet_pw l
end Go.Proofs.Ytbdhdjbdooccoaa
