/- What comes in to the statements of chapter 28; TransferSends and TransferEnds, as laws. -/
import Derived.Test.YtdiejbojobbboaaT6
import Derived.Test.YtdiejbojobbboaaT7
import Derived.Test.YtdiejbojobbboaaV6
namespace Go.Proofs.Ytdiejbojobbboaa
open Go.Vc Go.Tr

theorem actRd {w : World} {cs : List Value} (h : Rd Try.prog w 47 cs) : ∃ x : Actx, cs = actE x := by
  have hl := (h.struct Try.underlying47).1
  rw [show Try.prog.cellsOf 47 = 3 by kernel_rfl] at hl
  obtain ⟨x0, x1, x2, rfl⟩ : ∃ a b c, cs = [a, b, c] := by
    match cs, hl with
    | [a, b, c], _ => exact ⟨a, b, c, rfl⟩
  obtain ⟨n0, rfl, _⟩ := (h.field Try.underlying47 0 rfl (c := 1) (l := [x0]) (by kernel_rfl) rfl).int1 Try.underlying5
  obtain ⟨n1, rfl, _⟩ := (h.field Try.underlying47 1 rfl (c := 1) (l := [x1]) (by kernel_rfl) rfl).int1 Try.underlying3
  obtain ⟨n2, rfl, _⟩ := (h.field Try.underlying47 2 rfl (c := 1) (l := [x2]) (by kernel_rfl) rfl).int1 Try.underlying3
  exact ⟨⟨n0, n1, n2⟩, rfl⟩
theorem actsArg {w : World} {v : Value} (h : Arg Try.prog w 42 v) : ∃ (l : List Actx) (p : Option Addr) (k : Nat), v = .slice p l.length k ∧ ActAt w p l := by
  obtain ⟨p, n, k, rfl, _, _, hi⟩ := h.slice Try.underlying42
  obtain ⟨l, hl, hM⟩ := elems_of (sz := 3) (by kernel_rfl) (fun _ => actRd) hi
  exact ⟨l, p, k, by rw [hl], hM⟩
theorem three {w : World} {v : Value} (h : Arg Try.prog w 41 v) : ∃ a b c : Int, v = .agg #[.int .i64 a, .int .i64 b, .int .i64 c] := by
  obtain ⟨cs, rfl, hr⟩ := h.array Try.underlying41
  have hl := (hr.array Try.underlying41).1
  rw [show Try.prog.cellsOf 41 = 3 by kernel_rfl] at hl
  obtain ⟨x0, x1, x2, rfl⟩ : ∃ a b c, cs = [a, b, c] := by
    match cs, hl with
    | [a, b, c], _ => exact ⟨a, b, c, rfl⟩
  obtain ⟨n0, rfl, _⟩ := (hr.item Try.underlying41 0 (by decide) (c := 1) (l := [x0]) (by kernel_rfl) rfl).int1 Try.underlying3
  obtain ⟨n1, rfl, _⟩ := (hr.item Try.underlying41 1 (by decide) (c := 1) (l := [x1]) (by kernel_rfl) rfl).int1 Try.underlying3
  obtain ⟨n2, rfl, _⟩ := (hr.item Try.underlying41 2 (by decide) (c := 1) (l := [x2]) (by kernel_rfl) rfl).int1 Try.underlying3
  exact ⟨n0, n1, n2, rfl⟩
theorem twoRd {w : World} {cs : List Value} (hr : Rd Try.prog w 22 cs) : ∃ a b : Int, cs = [.int .u8 a, .int .u8 b] ∧ (0 ≤ a ∧ a ≤ 255) ∧ (0 ≤ b ∧ b ≤ 255) := by
  have hl := (hr.array Try.underlying22).1
  rw [show Try.prog.cellsOf 22 = 2 by kernel_rfl] at hl
  obtain ⟨x0, x1, rfl⟩ : ∃ a b, cs = [a, b] := by
    match cs, hl with
    | [a, b], _ => exact ⟨a, b, rfl⟩
  obtain ⟨n0, rfl, h0⟩ := (hr.item Try.underlying22 0 (by decide) (c := 1) (l := [x0]) (by kernel_rfl) rfl).int1 Try.underlying5
  obtain ⟨n1, rfl, h1⟩ := (hr.item Try.underlying22 1 (by decide) (c := 1) (l := [x1]) (by kernel_rfl) rfl).int1 Try.underlying5
  exact ⟨n0, n1, rfl, wf_u8 h0, wf_u8 h1⟩
theorem two {w : World} {v : Value} (h : Arg Try.prog w 22 v) : ∃ a b : Int, v = .agg #[.int .u8 a, .int .u8 b] ∧ (0 ≤ a ∧ a ≤ 255) ∧ (0 ≤ b ∧ b ≤ 255) := by
  obtain ⟨cs, rfl, hr⟩ := h.array Try.underlying22
  obtain ⟨a, b, rfl, h2⟩ := twoRd hr
  exact ⟨a, b, rfl, h2⟩
theorem TransferSends_law : Law Try.prog 4 Try.f4.params.toList := by
  intro W args hlen harg
  match args, hlen with
  | [v0, v1, v2], _ =>
    obtain ⟨s, rfl, _⟩ := (harg 0 9 v0 rfl rfl).string Try.underlying9
    obtain ⟨t, rfl⟩ := mk_of s
    obtain ⟨a, b, c, rfl⟩ := three (harg 1 41 v1 rfl rfl)
    obtain ⟨l, p, k, rfl, hM⟩ := actsArg (harg 2 42 v2 rfl rfl)
    exact lawTSends_pw t a b c hM rfl
theorem TransferEnds_law : Law Try.prog 3 Try.f3.params.toList := by
  intro W args hlen harg
  match args, hlen with
  | [v0, v1, v2], _ =>
    obtain ⟨s, rfl, _⟩ := (harg 0 9 v0 rfl rfl).string Try.underlying9
    obtain ⟨t, rfl⟩ := mk_of s
    obtain ⟨s2, rfl, _⟩ := (harg 1 9 v1 rfl rfl).string Try.underlying9
    obtain ⟨t2, rfl⟩ := mk_of s2
    obtain ⟨a, b, rfl, h3, h4⟩ := two (harg 2 22 v2 rfl rfl)
    exact lawTEnds_pu h3 h4 W
end Go.Proofs.Ytdiejbojobbboaa
