/- Configurations that come in. -/
import Derived.Test.YtljipmhkpnigkaaU1
import Derived.Test.YtljipmhkpnigkaaV6
namespace Go.Proofs.Ytljipmhkpnigkaa
open Go.Vc Go.Codec

theorem intRd {w : World} {cs : List Value} (h : Rd Try.prog w 3 cs) : ∃ n : Int, cs = intE n := by
  obtain ⟨n, hn, _⟩ := h.int Try.underlying3
  exact ⟨n, hn⟩
theorem cfRd {w : World} {cs : List Value} (h : Rd Try.prog w 24 cs) : ∃ (c : Cfg) (p : Option Addr) (k : Nat), cs = cfL c p c.quanta.length k ∧ IntAt w p c.quanta ∧ c.quanta.length ≤ k ∧ k ≤ maxLen := by
  have hl := (h.struct Try.underlying24).1
  rw [show Try.prog.cellsOf 24 = 12 by kernel_rfl] at hl
  obtain ⟨x0, x1, x2, x3, x4, x5, x6, x7, x8, x9, x10, x11, rfl⟩ : ∃ a b c d e f g h i j k l, cs = [a, b, c, d, e, f, g, h, i, j, k, l] := by
    match cs, hl with
    | [a, b, c, d, e, f, g, h, i, j, k, l], _ => exact ⟨a, b, c, d, e, f, g, h, i, j, k, l, rfl⟩
  obtain ⟨n0, rfl, _⟩ := (h.field Try.underlying24 0 rfl (c := 1) (l := [x0]) (by kernel_rfl) rfl).int1 Try.underlying3
  obtain ⟨n1, rfl, _⟩ := (h.field Try.underlying24 1 rfl (c := 1) (l := [x1]) (by kernel_rfl) rfl).int1 Try.underlying3
  obtain ⟨n2, rfl, _⟩ := (h.field Try.underlying24 2 rfl (c := 1) (l := [x2]) (by kernel_rfl) rfl).int1 Try.underlying3
  obtain ⟨p, n, k, rfl, hnk, hkm, hi⟩ := (h.field Try.underlying24 3 rfl (c := 1) (l := [x3]) (by kernel_rfl) rfl).slice1 Try.underlying22
  obtain ⟨n4, rfl, _⟩ := (h.field Try.underlying24 4 rfl (c := 1) (l := [x4]) (by kernel_rfl) rfl).int1 Try.underlying3
  obtain ⟨n5, rfl, _⟩ := (h.field Try.underlying24 5 rfl (c := 1) (l := [x5]) (by kernel_rfl) rfl).int1 Try.underlying3
  obtain ⟨n6, rfl, _⟩ := (h.field Try.underlying24 6 rfl (c := 1) (l := [x6]) (by kernel_rfl) rfl).int1 Try.underlying3
  obtain ⟨n7, rfl, _⟩ := (h.field Try.underlying24 7 rfl (c := 1) (l := [x7]) (by kernel_rfl) rfl).int1 Try.underlying3
  obtain ⟨n8, rfl, _⟩ := (h.field Try.underlying24 8 rfl (c := 1) (l := [x8]) (by kernel_rfl) rfl).int1 Try.underlying3
  obtain ⟨n9, rfl, _⟩ := (h.field Try.underlying24 9 rfl (c := 1) (l := [x9]) (by kernel_rfl) rfl).int1 Try.underlying3
  obtain ⟨n10, rfl, _⟩ := (h.field Try.underlying24 10 rfl (c := 1) (l := [x10]) (by kernel_rfl) rfl).int1 Try.underlying3
  obtain ⟨n11, rfl, _⟩ := (h.field Try.underlying24 11 rfl (c := 1) (l := [x11]) (by kernel_rfl) rfl).int1 Try.underlying3
  obtain ⟨l, hl, hM⟩ := elems_of (sz := 1) (by kernel_rfl) (fun _ => intRd) hi
  exact ⟨⟨n0, n1, n2, l, n4, n5, n6, n7, n8, n9, n10, n11⟩, p, k, by rw [hl], hM, hl ▸ hnk, hkm⟩
theorem cfArg {w : World} {v : Value} (h : Arg Try.prog w 24 v) : ∃ (c : Cfg) (p : Option Addr) (k : Nat), v = cfV c p c.quanta.length k ∧ IntAt w p c.quanta ∧ c.quanta.length ≤ k ∧ k ≤ maxLen := by
  obtain ⟨l, rfl, hr⟩ := h.struct Try.underlying24
  obtain ⟨c, p, k, rfl, h2⟩ := cfRd hr
  exact ⟨c, p, k, rfl, h2⟩
end Go.Proofs.Ytljipmhkpnigkaa
