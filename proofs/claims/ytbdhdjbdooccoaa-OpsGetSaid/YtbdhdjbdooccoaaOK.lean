/- The laws of chapter 09, as laws of what comes in. -/
import Derived.Test.YtbdhdjbdooccoaaOL
import Derived.Test.YtbdhdjbdooccoaaV6
namespace Go.Proofs.Ytbdhdjbdooccoaa
open Go.Vc Go.Codec

set_option maxRecDepth 100000 in
theorem opRd {W : World} {l : List Value} (h : Rd Try.prog W 23 l) : ∃ o : Opn, l = [.int .i64 o.kind, .string (mk o.key), .string (mk o.val), .int .i64 o.ver] := by
  obtain ⟨hl, hf⟩ := h.struct Try.underlying23
  rw [show Try.prog.cellsOf 23 = 4 by kernel_rfl] at hl
  match l, hl with
  | [a, b, c, d], _ =>
    have h0 : Rd Try.prog W 3 [a] := hf 0 _ rfl
    have h1 : Rd Try.prog W 9 [b] := hf 1 _ rfl
    have h2 : Rd Try.prog W 9 [c] := hf 2 _ rfl
    have h3 : Rd Try.prog W 3 [d] := hf 3 _ rfl
    obtain ⟨k, hk, _⟩ := h0.int Try.underlying3
    obtain ⟨x, hx, _⟩ := h1.string Try.underlying9
    obtain ⟨y, hy, _⟩ := h2.string Try.underlying9
    obtain ⟨n, hn, _⟩ := h3.int Try.underlying3
    obtain ⟨x, rfl⟩ := mk_of x
    obtain ⟨y, rfl⟩ := mk_of y
    simp only [List.cons.injEq, and_true] at hk hx hy hn
    subst hk hx hy hn
    exact ⟨⟨k, x, y, n⟩, rfl⟩
theorem opArg {W : World} {v : Value} (h : Arg Try.prog W 23 v) : ∃ o : Opn, v = opV o := by
  obtain ⟨l, rfl, hr⟩ := h.struct Try.underlying23
  obtain ⟨o, rfl⟩ := opRd hr
  exact ⟨o, rfl⟩
theorem OpsTell_law : Law Try.prog 3 Try.f3.params.toList := by
  intro W args hlen harg
  match args, hlen with
  | [v0], _ =>
    obtain ⟨o, rfl⟩ := opArg (harg 0 23 v0 rfl rfl)
    exact lawOTell_pu o W
theorem OpsGet_law : Law Try.prog 4 Try.f4.params.toList := by
  intro W args hlen harg
  match args, hlen with
  | [v0], _ =>
    obtain ⟨s, rfl, _⟩ := (harg 0 9 v0 rfl rfl).string Try.underlying9
    obtain ⟨l, rfl⟩ := mk_of s
    exact lawOGet_pu l W
theorem OpsForm_law : Law Try.prog 5 Try.f5.params.toList := by
  intro W args hlen harg
  match args, hlen with
  | [v0], _ =>
    obtain ⟨s, rfl, _⟩ := (harg 0 9 v0 rfl rfl).string Try.underlying9
    obtain ⟨l, rfl⟩ := mk_of s
    exact lawOForm_pu l W
theorem OpsBack_law : Law Try.prog 6 Try.f6.params.toList := by
  intro W args hlen harg
  match args, hlen with
  | [v0, v1], _ =>
    obtain ⟨o, rfl⟩ := opArg (harg 0 23 v0 rfl rfl)
    obtain ⟨n, rfl, hn⟩ := (harg 1 5 v1 rfl rfl).int Try.underlying5
    have := wf_u8 hn
    obtain ⟨k, rfl⟩ : ∃ k : Nat, n = k := ⟨n.toNat, by omega⟩
    exact lawOBack_pu o (by omega) W
end Go.Proofs.Ytbdhdjbdooccoaa
