/- The laws of chapter 02, as laws of what comes in. -/
import Derived.Test.YtkcljeonjhcjiaaL
import Derived.Test.YtkcljeonjhcjiaaV6
namespace Go.Proofs.Ytkcljeonjhcjiaa
open Go.Vc Go.Codec

theorem CodecPut_law : Law Try.prog 3 Try.f3.params.toList := by
  intro W args hlen harg
  match args, hlen with
  | [v0, v1, v2], _ =>
    obtain ⟨n, rfl, hn⟩ := (harg 0 22 v0 rfl rfl).int Try.underlying22
    obtain ⟨m, rfl, _⟩ := (harg 1 3 v1 rfl rfl).int Try.underlying3
    obtain ⟨s, rfl, _⟩ := (harg 2 9 v2 rfl rfl).string Try.underlying9
    obtain ⟨l, rfl⟩ := mk_of s
    have := wf_u64 hn
    obtain ⟨k, rfl⟩ : ∃ k : Nat, n = k := ⟨n.toNat, by omega⟩
    exact lawPut_pu (by omega) m l W
theorem CodecRead_law : Law Try.prog 4 Try.f4.params.toList := by
  intro W args hlen harg
  match args, hlen with
  | [v0], _ =>
    obtain ⟨s, rfl, _⟩ := (harg 0 9 v0 rfl rfl).string Try.underlying9
    obtain ⟨l, rfl⟩ := mk_of s
    exact lawRead_pu l W
theorem CodecForm_law : Law Try.prog 6 Try.f6.params.toList := by
  intro W args hlen harg
  match args, hlen with
  | [v0], _ =>
    obtain ⟨s, rfl, _⟩ := (harg 0 9 v0 rfl rfl).string Try.underlying9
    obtain ⟨l, rfl⟩ := mk_of s
    exact lawForm_pu l W
theorem CodecBack_law : Law Try.prog 5 Try.f5.params.toList := by
  intro W args hlen harg
  match args, hlen with
  | [v0, v1, v2], _ =>
    obtain ⟨n, rfl, hn⟩ := (harg 0 22 v0 rfl rfl).int Try.underlying22
    obtain ⟨m, rfl, hm⟩ := (harg 1 35 v1 rfl rfl).int Try.underlying35
    obtain ⟨s, rfl, _⟩ := (harg 2 9 v2 rfl rfl).string Try.underlying9
    obtain ⟨l, rfl⟩ := mk_of s
    have := wf_u64 hn
    have := wf_u16 hm
    obtain ⟨k, rfl⟩ : ∃ k : Nat, n = k := ⟨n.toNat, by omega⟩
    obtain ⟨j, rfl⟩ : ∃ j : Nat, m = j := ⟨m.toNat, by omega⟩
    exact lawBack_pu (by omega) (by omega) l W
end Go.Proofs.Ytkcljeonjhcjiaa
