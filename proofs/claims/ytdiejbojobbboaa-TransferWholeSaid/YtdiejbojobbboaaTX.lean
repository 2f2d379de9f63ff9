/- What comes in to TransferWhole, and it as a law. -/
import Derived.Test.YtdiejbojobbboaaTW
import Derived.Test.YtdiejbojobbboaaV6
namespace Go.Proofs.Ytdiejbojobbboaa
open Go.Vc Go.Tr

abbrev By2 : Type := { x : Int × Int // (0 ≤ x.1 ∧ x.1 ≤ 255) ∧ (0 ≤ x.2 ∧ x.2 ≤ 255) }
theorem bytesRd {w : World} {cs : List Value} (hr : Rd Try.prog w 22 cs) : ∃ x : By2, cs = twoE x.val := by
  have hl := (hr.array Try.underlying22).1
  rw [show Try.prog.cellsOf 22 = 2 by kernel_rfl] at hl
  obtain ⟨x0, x1, rfl⟩ : ∃ a b, cs = [a, b] := by
    match cs, hl with
    | [a, b], _ => exact ⟨a, b, rfl⟩
  obtain ⟨n0, rfl, h0⟩ := (hr.item Try.underlying22 0 (by decide) (c := 1) (l := [x0]) (by kernel_rfl) rfl).int1 Try.underlying5
  obtain ⟨n1, rfl, h1⟩ := (hr.item Try.underlying22 1 (by decide) (c := 1) (l := [x1]) (by kernel_rfl) rfl).int1 Try.underlying5
  exact ⟨⟨(n0, n1), wf_u8 h0, wf_u8 h1⟩, rfl⟩
theorem bytes2 {w : World} {v : Value} (h : Arg Try.prog w 22 v) : ∃ a b : Int, v = .agg #[.int .u8 a, .int .u8 b] ∧ (0 ≤ a ∧ a ≤ 255) ∧ (0 ≤ b ∧ b ≤ 255) := by
  obtain ⟨cs, rfl, hr⟩ := h.array Try.underlying22
  obtain ⟨⟨⟨a, b⟩, h2⟩, rfl⟩ := bytesRd hr
  exact ⟨a, b, rfl, h2⟩
theorem actsIn {w : World} {v : Value} (h : Arg Try.prog w 55 v) : ∃ (l : List (Int × Int)) (p : Option Addr) (k : Nat), v = .slice p l.length k ∧ TwoAt w p l ∧ ∀ x ∈ l, (0 ≤ x.1 ∧ x.1 ≤ 255) ∧ (0 ≤ x.2 ∧ x.2 ≤ 255) := by
  obtain ⟨p, n, k, rfl, _, _, hi⟩ := h.slice Try.underlying55
  obtain ⟨l, hl, hM⟩ := elems_of (enc := fun x : By2 => twoE x.val) (sz := 2) (by kernel_rfl) (fun _ => bytesRd) hi
  refine ⟨l.map (·.val), p, k, by rw [List.length_map, hl], fun i hi => ?_, fun x hx => ?_⟩
  · obtain ⟨a, ha, hr⟩ := hM i (by simpa using hi)
    exact ⟨a, ha, by simpa using hr⟩
  · obtain ⟨y, _, rfl⟩ := List.mem_map.1 hx
    exact y.property
theorem TransferWhole_law : Law Try.prog 5 Try.f5.params.toList := by
  intro W args hlen harg
  match args, hlen with
  | [v0, v1, v2], _ =>
    obtain ⟨s, rfl, _⟩ := (harg 0 9 v0 rfl rfl).string Try.underlying9
    obtain ⟨t, rfl⟩ := mk_of s
    obtain ⟨a, b, rfl, h2, h3⟩ := bytes2 (harg 1 22 v1 rfl rfl)
    obtain ⟨l, p, k, rfl, hM, h8⟩ := actsIn (harg 2 55 v2 rfl rfl)
    exact lawTWhole_pw t h2 h3 hM rfl h8
end Go.Proofs.Ytdiejbojobbboaa
