/- ClientBudget, as a law of what comes in. -/
import Derived.Test.YtljipmhkpnigkaaKM
import Derived.Test.YtljipmhkpnigkaaUK
namespace Go.Proofs.Ytljipmhkpnigkaa
open Go.Vc Go.Codec

theorem tkRd {w : World} {cs : List Value} (h : Rd Try.prog w 5 cs) : ∃ x, cs = tkE x := by
  obtain ⟨n, hn, w0⟩ := h.int Try.underlying5
  exact ⟨⟨n, wf_u8 w0⟩, hn⟩
theorem ticksArg {w : World} {v : Value} (h : Arg Try.prog w 40 v) : ∃ (l : List U8S) (p : Option Addr) (k : Nat), v = .slice p l.length k ∧ TkAt w p l := by
  obtain ⟨p, n, k, rfl, h1, h2, hi⟩ := h.slice Try.underlying40
  obtain ⟨l, rfl, hM⟩ := elems_of (sz := 1) (by kernel_rfl) (fun _ => tkRd) hi
  exact ⟨l, p, k, rfl, hM⟩
theorem ClientBudget_law : Law Try.prog 11 Try.f11.params.toList := by
  intro W args hlen harg
  match args, hlen with
  | [v0, v1], _ =>
    obtain ⟨c, p, k, rfl, hM, hk, hk'⟩ := cfArg (harg 0 24 v0 rfl rfl)
    obtain ⟨l, pl, kl, rfl, hA⟩ := ticksArg (harg 1 40 v1 rfl rfl)
    exact lawKBudget_pw hM rfl hA rfl
end Go.Proofs.Ytljipmhkpnigkaa
