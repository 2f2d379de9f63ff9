/- Chains: where their members lie, what becomes of them: plain. No program is named. -/
import Derived.Test.YtljipmhkpnigkaaV12
namespace Go.Codec

theorem memC_at {c : Chn} (h : okC c) {j : Nat} (hj : j < c.mem.length) : memC c j = c.mem[j].1 := by
  unfold memC
  rw [if_neg (by have := chkC_ok.2 h; omega)]
  simp [List.getD_eq_getElem?_getD, hj]
theorem memC_out (c : Chn) {i : Int} (h : i < 0 ∨ c.mem.length ≤ i) : memC c i = -1 := by
  unfold memC; rw [if_pos (by omega)]
theorem at_mem {c : Chn} (h : okC c) {j : Nat} (hj : j < c.mem.length) : atC c.mem c.mem[j].1 = j := nodup_at.1 h.nodup j hj
theorem node_nonneg {c : Chn} (h : okC c) {j : Nat} (hj : j < c.mem.length) : 0 ≤ c.mem[j].1 := (h.good _ (List.getElem_mem hj)).1
/-- the node at a place, -1 behind the tail -/
def nodeAt (c : Chn) (j : Nat) : Int := if h : j < c.mem.length then c.mem[j].1 else -1
def aheadC (c : Chn) (j : Nat) : Int := if j = 0 then -1 else nodeAt c (j - 1)
theorem nodeAt_lt {c : Chn} {j : Nat} (h : j < c.mem.length) : nodeAt c j = c.mem[j].1 := by unfold nodeAt; rw [dif_pos h]
theorem nodeAt_ge {c : Chn} {j : Nat} (h : c.mem.length ≤ j) : nodeAt c j = -1 := by unfold nodeAt; rw [dif_neg (by omega)]
theorem head_at {c : Chn} (h : okC c) : headC c = nodeAt c 0 := by
  have h1 := h.l1
  rw [nodeAt_lt (by omega)]; exact memC_at (j := 0) h (by omega)
theorem next_at {c : Chn} (h : okC c) {j : Nat} (hj : j < c.mem.length) : nextC c (nodeAt c j) = nodeAt c (j + 1) := by
  rw [nodeAt_lt hj]
  unfold nextC
  rw [at_mem h hj, if_neg (by omega)]
  rcases Nat.lt_or_ge (j + 1) c.mem.length with h1 | h1
  · rw [nodeAt_lt h1, ← memC_at h h1]; congr 1
  · rw [nodeAt_ge h1, memC_out c (by omega)]
theorem prev_at {c : Chn} (h : okC c) {j : Nat} (hj : j < c.mem.length) : prevC c (nodeAt c j) = aheadC c j := by
  rw [nodeAt_lt hj]
  unfold prevC aheadC
  rw [at_mem h hj]
  by_cases h0 : j = 0
  · rw [if_pos h0, memC_out c (by omega)]
  · rw [if_neg h0, nodeAt_lt (by omega), ← memC_at h (by omega)]; congr 1; omega
theorem tail_at {c : Chn} (h : okC c) : tailC c = aheadC c c.mem.length := by
  have h1 := h.l1
  unfold tailC aheadC
  rw [if_neg (by omega), nodeAt_lt (by omega), ← memC_at h (by omega)]; congr 1; omega
theorem at_append_last {l : List (Int × Int)} {n e : Int} (h : atC l n < 0) : atC (l ++ [(n, e)]) n = l.length := by
  have hno : ∀ m ∈ l, m.1 ≠ n := by
    intro m hm he
    have := atC_mem.2 (List.mem_map.2 ⟨m, hm, he⟩)
    omega
  refine atC_eq (i := l.length) (by simp) (by simp) fun j hj hlt => ?_
  rw [List.getElem_append_left hlt]
  exact hno _ (List.getElem_mem hlt)
theorem with_facts {c : Chn} {n : Int} (h : (withC c n).2 = 0) : chkC (withC c n).1 = 0 ∧ (withC c n).1.epoch = c.epoch + 1 ∧ tailC (withC c n).1 = n ∧ sinceC (withC c n).1 n = ((withC c n).1.epoch, true) ∧ (withC c n).1.mem.length = c.mem.length + 1 := by
  have hk := with_okC h
  obtain ⟨hc, h1, h2, h3, h4, h5⟩ := with_ok h
  have hat : atC (withC c n).1.mem n = c.mem.length := by rw [h5]; exact at_append_last h4
  have hlen : (withC c n).1.mem.length = c.mem.length + 1 := by rw [h5]; simp
  refine ⟨chkC_ok.2 hk, by rw [h5], ?_, ?_, hlen⟩
  · have := memC_at hk (j := c.mem.length) (by omega)
    unfold tailC
    rw [hlen, show ((c.mem.length + 1 : Nat) : Int) - 1 = (c.mem.length : Int) by omega, this]
    simp [h5]
  · unfold sinceC
    rw [hat, if_neg (by have := chkC_ok.2 hk; omega)]
    simp [h5]
theorem with_without {c : Chn} {n : Int} (h : (withC c n).2 = 0) (he : (withC c n).1.epoch < 1099511627776) : withoutC (withC c n).1 n = (⟨c.epoch + 2, c.mem, c.drain⟩, 0) := by
  have hk := with_okC h
  obtain ⟨hc, h1, h2, h3, h4, h5⟩ := with_ok h
  have hat : atC (withC c n).1.mem n = c.mem.length := by rw [h5]; exact at_append_last h4
  have hlen : (withC c n).1.mem.length = c.mem.length + 1 := by rw [h5]; simp
  have hl1 := hc.l1
  have hle : leavesC (withC c n).1 n = 0 := by
    unfold leavesC
    rw [if_neg (by have := chkC_ok.2 hk; omega), if_neg (by omega), if_neg (by omega)]
  unfold withoutC
  rw [if_neg (by omega), hat]
  have hd : c.drain ≠ n := by
    rcases hc.drain_ with hd | hd
    · omega
    · intro hdn
      rw [hdn] at hd
      have := atC_mem.2 hd
      omega
  have her : (c.mem ++ [(n, c.epoch + 1)]).eraseIdx c.mem.length = c.mem := by
    rw [List.eraseIdx_append_of_length_le (Nat.le_refl _)]; simp
  rw [h5]
  simp only [Int.toNat_natCast, her, if_neg hd]
  congr 2; omega
theorem without_since (c : Chn) (n : Int) : (sinceC (withoutC c n).1 n).2 = false := by
  by_cases h : (withoutC c n).2 = 0
  · obtain ⟨_, h2, _⟩ := without_ok h
    have : atC (withoutC c n).1.mem n = -1 := by
      rw [h2]
      exact atC_no fun m hm => by simpa using (List.mem_filter.1 hm).2
    unfold sinceC
    rw [if_pos (by omega)]
  · have : (withoutC c n).1 = .none := by
      unfold withoutC at h ⊢
      split
      · rfl
      · rename_i hh; rw [if_neg hh] at h; exact absurd rfl h
    rw [this]; rfl
theorem without_facts {c : Chn} {n : Int} (h : (withoutC c n).2 = 0) : chkC (withoutC c n).1 = 0 ∧ (withoutC c n).1.epoch = c.epoch + 1 ∧ (withoutC c n).1.mem.length = c.mem.length - 1 := by
  obtain ⟨_, h2, h3⟩ := without_ok h
  exact ⟨chkC_ok.2 (without_okC h), by rw [h2], by rw [h2]; exact h3⟩
theorem drain_facts {c : Chn} {n : Int} (h : (drainC c n).2 = 0) : chkC (drainC c n).1 = 0 ∧ (drainC c n).1.epoch = c.epoch + 1 ∧ (drainC c n).1.drain = n := by
  obtain ⟨_, _, h3⟩ := drain_ok h
  exact ⟨chkC_ok.2 (drain_okC h), by rw [h3], by rw [h3]⟩
end Go.Codec
