/- ChainsGet and ChainsBack, as laws of what comes in. -/
import Derived.Test.YtbdhdjbdooccoaaCK
import Derived.Test.YtbdhdjbdooccoaaCN
namespace Go.Proofs.Ytbdhdjbdooccoaa
open Go.Vc Go.Codec

theorem ChainsGet_law : Law Try.prog 9 Try.f9.params.toList := by
  intro W args hlen harg
  match args, hlen with
  | [v0], _ =>
    obtain ⟨s, rfl, _⟩ := (harg 0 9 v0 rfl rfl).string Try.underlying9
    obtain ⟨l, rfl⟩ := mk_of s
    exact lawCGet_pu l W
theorem ChainsBack_law : Law Try.prog 10 Try.f10.params.toList := by
  intro W args hlen harg
  match args, hlen with
  | [v0, v1], _ =>
    obtain ⟨c, p, k, rfl, hm⟩ := chArg (harg 0 37 v0 rfl rfl)
    obtain ⟨n, rfl, hn⟩ := (harg 1 5 v1 rfl rfl).int Try.underlying5
    have := wf_u8 hn
    obtain ⟨j, rfl⟩ : ∃ j : Nat, n = j := ⟨n.toNat, by omega⟩
    exact lawCBack_pw hm rfl (by omega)
end Go.Proofs.Ytbdhdjbdooccoaa
