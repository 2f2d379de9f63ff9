/- Chains that come in: their form. -/
import Derived.Test.YtljipmhkpnigkaaCB
import Derived.Test.YtljipmhkpnigkaaV6
namespace Go.Proofs.Ytljipmhkpnigkaa
open Go.Vc Go.Codec

set_option maxRecDepth 100000 in
theorem memRd {W : World} {l : List Value} (h : Rd Try.prog W 64 l) : ∃ m : Int × Int, l = memE m := by
  obtain ⟨hl, hf⟩ := h.struct Try.underlying64
  rw [show Try.prog.cellsOf 64 = 2 by kernel_rfl] at hl
  match l, hl with
  | [a, b], _ =>
    have h0 : Rd Try.prog W 3 [a] := hf 0 _ rfl
    have h1 : Rd Try.prog W 3 [b] := hf 1 _ rfl
    obtain ⟨x, hx, _⟩ := h0.int Try.underlying3
    obtain ⟨y, hy, _⟩ := h1.int Try.underlying3
    simp only [List.cons.injEq, and_true] at hx hy
    subst hx hy
    exact ⟨(x, y), rfl⟩
/-- a row of elements that can be read, as a list -/
theorem el_list {α : Type} {enc : α → List Value} {sz : Nat} {W : World} {p : Option Addr} : ∀ (n : Nat), (∀ i, i < n → ∃ a vs, p = some a ∧ Row W (a.add (i * sz)) 0 vs ∧ ∃ x : α, vs = enc x) → ∃ l : List α, l.length = n ∧ ElAt enc sz W p l
  | 0, _ => ⟨[], rfl, ElAt.nil _ _⟩
  | n + 1, h => by
    obtain ⟨l, hl, hE⟩ := el_list n (fun i hi => h i (by omega))
    obtain ⟨a, vs, ha, hr, x, rfl⟩ := h n (by omega)
    refine ⟨l ++ [x], by simp [hl], fun i hi => ?_⟩
    simp only [List.length_append, List.length_singleton] at hi
    rcases Nat.lt_or_ge i l.length with h1 | h1
    · obtain ⟨a', ha', hr'⟩ := hE i h1
      exact ⟨a', ha', by simpa [List.getElem_append_left h1] using hr'⟩
    · obtain rfl : i = n := by omega
      refine ⟨a, ha, ?_⟩
      have : (l ++ [x])[i] = x := by simp [List.getElem_append_right h1, hl]
      rw [this]; exact hr
set_option maxRecDepth 100000 in
theorem chRd {W : World} {l : List Value} (h : Rd Try.prog W 32 l) : ∃ (c : Chn) (p : Option Addr) (k : Nat), l = [.int .i64 c.epoch, .slice p c.mem.length k, .int .i64 c.drain] ∧ MemAt W p c.mem := by
  obtain ⟨hl, hf⟩ := h.struct Try.underlying32
  rw [show Try.prog.cellsOf 32 = 3 by kernel_rfl] at hl
  match l, hl with
  | [a, b, d], _ =>
    have h0 : Rd Try.prog W 3 [a] := hf 0 _ rfl
    have h1 : Rd Try.prog W 30 [b] := hf 1 _ rfl
    have h2 : Rd Try.prog W 3 [d] := hf 2 _ rfl
    obtain ⟨x, hx, _⟩ := h0.int Try.underlying3
    obtain ⟨p, n, k, hs, _, _, hel⟩ := h1.slice Try.underlying30
    obtain ⟨y, hy, _⟩ := h2.int Try.underlying3
    simp only [List.cons.injEq, and_true] at hx hs hy
    subst hx hs hy
    obtain ⟨m, rfl, hm⟩ := el_list (enc := memE) (sz := 2) n (fun i hi => by
      obtain ⟨a, vs, ha, _, hr, hrd⟩ := hel i hi
      rw [show Try.prog.cellsOf 64 = 2 by kernel_rfl] at hr
      exact ⟨a, vs, ha, hr, memRd hrd⟩)
    exact ⟨⟨x, m, y⟩, p, k, rfl, hm⟩
theorem chArg {W : World} {v : Value} (h : Arg Try.prog W 32 v) : ∃ (c : Chn) (p : Option Addr) (k : Nat), v = chV c.epoch p c.mem.length k c.drain ∧ MemAt W p c.mem := by
  obtain ⟨l, rfl, hr⟩ := h.struct Try.underlying32
  obtain ⟨c, p, k, rfl, hm⟩ := chRd hr
  exact ⟨c, p, k, rfl, hm⟩
end Go.Proofs.Ytljipmhkpnigkaa
