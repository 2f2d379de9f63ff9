/- The laws CountsNone and CountsPlay return true. -/
import Derived.Test.YtpnmcimjolmnoaaF
namespace Go.Proofs.Ytpnmcimjolmnoaa
open Go.Vc

theorem block_add (a : Addr) (k : Nat) : (a.add k).block = a.block := by unfold Addr.add; split <;> rfl
theorem acts_of {W : World} {p : Option Addr} {n : Nat} (hel : ∀ i, i < n → ∃ a vs, p = some a ∧ vs.length = Try.prog.cellsOf 29 ∧ Row W (a.add (i * Try.prog.cellsOf 29)) 0 vs ∧ Rd Try.prog W 29 vs) :
    ∃ F, Acts W p n F := by
  rw [show Try.prog.cellsOf 29 = 2 by kernel_rfl] at hel
  have : ∀ i, ∃ xy : Int × Int, i < n → ∃ a, p = some a ∧ a.block < W.heap.size ∧ W.cell? (a.add (i * 2)) = some (.int .i64 xy.1) ∧ W.cell? ((a.add (i * 2)).add 1) = some (.int .i64 xy.2) ∧ xy.2 ≤ 9223372036854775807 := by
    intro i
    by_cases hi : i < n
    · obtain ⟨a, vs, rfl, hl, hrow, hrd⟩ := hel i hi
      obtain ⟨_, hf⟩ := hrd.struct Try.underlying29
      match vs, hl with
      | [x, y], _ =>
        have h0 : Rd Try.prog W 3 [x] := hf 0 _ rfl
        have h1 : Rd Try.prog W 2 [y] := hf 1 _ rfl
        obtain ⟨kd, hk, _⟩ := h0.int Try.underlying3
        obtain ⟨nw, hn, hw⟩ := h1.int Try.underlying2
        simp only [List.cons.injEq, and_true] at hk hn
        subst hk; subst hn
        refine ⟨(kd, nw), fun _ => ⟨a, rfl, by have := row_block hrow; rwa [block_add] at this, ?_, hrow.2.1, (wf_i64 hw).2⟩⟩
        have := hrow.1
        simpa [Addr.add] using this
    · exact ⟨(0, 0), fun h => absurd h hi⟩
  exact ⟨fun i => Classical.choose (this i), fun j hj => Classical.choose_spec (this j) hj⟩
theorem CountsNone_law : Law Try.prog 5 Try.f5.params.toList := by
  intro W args hlen harg
  match args, hlen with
  | [v0], _ =>
    obtain ⟨l, rfl, hr⟩ := (harg 0 29 v0 rfl rfl).struct Try.underlying29
    obtain ⟨hl, hf⟩ := hr.struct Try.underlying29
    rw [show Try.prog.cellsOf 29 = 2 by kernel_rfl] at hl
    match l, hl with
    | [x, y], _ =>
      have h0 : Rd Try.prog W 3 [x] := hf 0 _ rfl
      have h1 : Rd Try.prog W 2 [y] := hf 1 _ rfl
      obtain ⟨kd, hk, _⟩ := h0.int Try.underlying3
      obtain ⟨nw, hn, _⟩ := h1.int Try.underlying2
      simp only [List.cons.injEq, and_true] at hk hn
      subst hk; subst hn
      exact none_ca kd nw W
theorem CountsPlay_law : Law Try.prog 4 Try.f4.params.toList := by
  intro W args hlen harg
  match args, hlen with
  | [v0, v1], _ =>
    obtain ⟨n, rfl, _⟩ := (harg 0 3 v0 rfl rfl).int Try.underlying3
    obtain ⟨p, k, m, rfl, _, _, hel⟩ := (harg 1 22 v1 rfl rfl).slice Try.underlying22
    obtain ⟨F, hF⟩ := acts_of hel
    exact play_ca n p k m F W hF
end Go.Proofs.Ytpnmcimjolmnoaa
