/- A master: what its acts do to its chain. No program is named. -/
import Derived.Test.YtljipmhkpnigkaaMP
import Derived.Test.YtljipmhkpnigkaaV17
namespace Go.Codec
variable {m : Mst}
structure OutOf (m m' : Mst) (n : Int) : Prop where
  e : m'.ch.epoch = m.ch.epoch + 1
  mem : m'.ch.mem = m.ch.mem.filter (fun x => decide (x.1 ≠ n))
  len : m'.ch.mem.length + 1 = m.ch.mem.length
  drain : m'.ch.drain = if m.ch.drain = n then -1 else m.ch.drain
  heard : m'.heard = m.heard
  whole : m'.whole = m.whole.set n.toNat false
  pat : m'.patience = m.patience
  nodes : m'.nodes = m.nodes
theorem okM.out_of (h : okM m) {n : Int} (hg : m.goes n = true) (hm : m.has n = true) (he : m.ch.epoch < 1099511627776) : OutOf m (m.out n).1 n := by
  have h1 := h.out hg hm he
  have e : m.out n = (⟨m.nodes, m.patience, (withoutC m.ch n).1, m.heard, m.whole.set n.toNat false⟩, true) := by unfold Mst.out; rw [if_neg (by omega)]
  obtain ⟨h2, h3, h4⟩ := without_ok h1
  have := h.ok.l1
  rw [e]
  refine ⟨by show (withoutC m.ch n).1.epoch = _; rw [h3], by show (withoutC m.ch n).1.mem = _; rw [h3], ?_, by show (withoutC m.ch n).1.drain = _; rw [h3], rfl, rfl, rfl, rfl⟩
  show (withoutC m.ch n).1.mem.length + 1 = _
  rw [h3]; dsimp only; rw [h4]; omega
theorem out_keeps (m : Mst) (n : Int) : (m.out n).1.nodes = m.nodes ∧ (m.out n).1.patience = m.patience ∧ (m.out n).1.heard = m.heard := by
  unfold Mst.out; split <;> exact ⟨rfl, rfl, rfl⟩
theorem leaves_zero {n : Int} (h : m.leaves n = 0) : m.has n = true ∧ m.goes n = true := by
  unfold Mst.leaves at h
  split at h
  · rename_i h1
    split at h
    · rename_i h2; exact ⟨h1, h2⟩
    · omega
  · omega
/-- what an act may do to a chain -/
structure Rise (m m' : Mst) : Prop where
  ok : okM m'
  ch : m'.ch = m.ch ∨ (m.ch.epoch < m'.ch.epoch ∧ (m'.ch.epoch = m.ch.epoch + 1 ∨ m'.ch.epoch + m'.ch.mem.length = m.ch.epoch + m.ch.mem.length))
  le : m'.ch.epoch ≤ m.ch.epoch + 6
  nodes : m'.nodes = m.nodes
theorem Rise.same (h : okM m) : Rise m m := ⟨h, .inl rfl, by omega, rfl⟩
theorem rise_out (h : okM m) {n : Int} (hg : m.goes n = true) (hm : m.has n = true) (he : m.ch.epoch < 1099511627776) : Rise m (m.out n).1 ∧ m.ch.epoch < (m.out n).1.ch.epoch := by
  have o := h.out_of hg hm he
  have e := o.e
  exact ⟨⟨h.out_ok hg, .inr ⟨by omega, .inl e⟩, by omega, o.nodes⟩, by omega⟩
theorem rise_alive (h : okM m) {n : Int} (hn : 0 ≤ n ∧ n < 6) (e i : Int) {now : Int} (hnow : 0 ≤ now ∧ now ≤ 1099511627776) : Rise m (m.alive n e i now) :=
  ⟨h.alive_ok hn e i hnow, .inl rfl, by show m.ch.epoch ≤ _; omega, rfl⟩
theorem rise_suspect (h : okM m) (he : m.ch.epoch < 1099511627776) (n : Int) : Rise m (m.suspect n).1 ∧ ((m.suspect n).2 = 0 → m.ch.epoch < (m.suspect n).1.ch.epoch) ∧ ((m.suspect n).2 ≠ 0 → (m.suspect n).1 = m) := by
  unfold Mst.suspect
  by_cases h1 : m.leaves n ≠ 0
  · rw [if_pos h1]; exact ⟨.same h, fun h2 => absurd h2 h1, fun _ => rfl⟩
  · rw [if_neg h1]
    obtain ⟨h2, h3⟩ := leaves_zero (Decidable.not_not.1 h1)
    obtain ⟨h4, h5⟩ := rise_out h h3 h2 he
    exact ⟨h4, fun _ => h5, fun hh => absurd rfl hh⟩
theorem rise_join (h : okM m) (n now : Int) : Rise m (m.join n now).1 ∧ ((m.join n now).2 = 0 → m.ch.epoch < (m.join n now).1.ch.epoch ∧ tailC (m.join n now).1.ch = n ∧ (m.join n now).1.wh n = false ∧ 0 ≤ n ∧ n < m.nodes ∧ (m.join n now).1.heard = m.heard.set n.toNat (nearT now)) ∧ ((m.join n now).2 ≠ 0 → (m.join n now).1 = m) := by
  have hok := h.join_ok n now
  unfold Mst.join at hok ⊢
  by_cases h1 : n < 0 ∨ m.nodes ≤ n
  · rw [if_pos h1]; exact ⟨.same h, fun h2 => by simp at h2, fun _ => rfl⟩
  · rw [if_neg h1] at hok ⊢
    by_cases h2 : (withC m.ch n).2 ≠ 0
    · rw [if_pos h2]; exact ⟨.same h, fun h3 => absurd h3 h2, fun _ => rfl⟩
    · rw [if_neg h2] at hok ⊢
      have h2 := Decidable.not_not.1 h2
      obtain ⟨_, h3, h4, _⟩ := with_facts h2
      have := h.n2
      have hw := h.wl
      refine ⟨⟨hok, .inr ⟨by show _ < (withC m.ch n).1.epoch; omega, .inl h3⟩, by show (withC m.ch n).1.epoch ≤ _; omega, rfl⟩, fun _ => ⟨by show _ < (withC m.ch n).1.epoch; omega, h4, ?_, by omega, by omega, rfl⟩, fun hh => absurd rfl hh⟩
      show (m.whole.set n.toNat false).getD n.toNat false = false
      rw [wh_set hw (by omega) (by omega), if_pos rfl]
theorem rise_drain (h : okM m) (n : Int) : Rise m (m.drain n).1 ∧ ((m.drain n).2 = 0 → m.ch.epoch < (m.drain n).1.ch.epoch ∧ (m.drain n).1.ch.drain = n) ∧ ((m.drain n).2 ≠ 0 → (m.drain n).1 = m) := by
  have hok := h.drain_ok n
  unfold Mst.drain at hok ⊢
  by_cases h1 : m.leaves n ≠ 0
  · rw [if_pos h1]; exact ⟨.same h, fun h2 => absurd h2 h1, fun _ => rfl⟩
  · rw [if_neg h1] at hok ⊢
    by_cases h2 : (drainC m.ch n).2 ≠ 0
    · rw [if_pos h2]; exact ⟨.same h, fun h3 => absurd h3 h2, fun _ => rfl⟩
    · rw [if_neg h2] at hok ⊢
      obtain ⟨_, h3, h4⟩ := drain_facts (Decidable.not_not.1 h2)
      exact ⟨⟨hok, .inr ⟨by show _ < (drainC m.ch n).1.epoch; omega, .inl h3⟩, by show (drainC m.ch n).1.epoch ≤ _; omega, rfl⟩, fun _ => ⟨by show _ < (drainC m.ch n).1.epoch; omega, h4⟩, fun hh => absurd rfl hh⟩
theorem drain_has (h : okM m) {n : Int} (hn : 0 ≤ n) (hd : m.ch.drain = n) : m.has n = true := by
  rw [Mst.has_mem h.ok]
  rcases h.ok.drain_ with h1 | h1
  · omega
  · rw [← hd]; exact h1
theorem rise_drained (h : okM m) (he : m.ch.epoch < 1099511627776) {n : Int} (hn : 0 ≤ n) (e : Int) : Rise m (m.drained n e).1 := by
  unfold Mst.drained
  by_cases h1 : e = m.ch.epoch ∧ m.ch.drain = n ∧ m.goes n = true
  · rw [if_pos h1]
    exact (rise_out h h1.2.2 (drain_has h hn h1.2.1) he).1
  · rw [if_neg h1]; exact .same h
theorem drained_gone (h : okM m) (he : m.ch.epoch < 1099511627776) {n : Int} (hn : 0 ≤ n) {e : Int} (h1 : e = m.ch.epoch ∧ m.ch.drain = n ∧ m.goes n = true) : (m.drained n e).2 = true ∧ (m.drained n e).1.ch.epoch = m.ch.epoch + 1 ∧ (m.drained n e).1.has n = false ∧ (m.drained n e).1.ch.drain = -1 ∧ (m.drained n e).1.ch.mem.length + 1 = m.ch.mem.length := by
  unfold Mst.drained
  rw [if_pos h1]
  have hh := drain_has h hn h1.2.1
  have o := h.out_of h1.2.2 hh he
  refine ⟨?_, o.e, ?_, by rw [o.drain, if_pos h1.2.1], o.len⟩
  · unfold Mst.out; rw [if_neg (by rw [h.out h1.2.2 hh he]; simp)]
  · rw [Bool.eq_false_iff, Ne, Mst.has_mem (h.out_ok h1.2.2).ok, o.mem]
    intro hc
    obtain ⟨y, hy, hyn⟩ := List.mem_map.1 hc
    have := (List.mem_filter.1 hy).2
    simp [hyn] at this
theorem drained_not {n e : Int} (h1 : ¬ (e = m.ch.epoch ∧ m.ch.drain = n ∧ m.goes n = true)) : m.drained n e = (m, false) := by unfold Mst.drained; rw [if_neg h1]
/-- what ticks do -/
structure Fol (now : Int) (m m' : Mst) : Prop where
  ok : okM m'
  heard : m'.heard = m.heard
  pat : m'.patience = m.patience
  nodes : m'.nodes = m.nodes
  sum : m'.ch.epoch + m'.ch.mem.length = m.ch.epoch + m.ch.mem.length
  ch : m'.ch = m.ch ∨ m.ch.epoch < m'.ch.epoch
  mem : ∀ y ∈ m'.ch.mem, y ∈ m.ch.mem
  wh : ∀ y ∈ m'.ch.mem, m'.wh y.1 = true → m.wh y.1 = true
  gone : ∀ y ∈ m.ch.mem, y ∉ m'.ch.mem → nearT now - m.heard.getD y.1.toNat 0 > m.patience
theorem Fol.refl (h : okM m) (now : Int) : Fol now m m := ⟨h, rfl, rfl, rfl, rfl, .inl rfl, fun _ h => h, fun _ _ h => h, fun _ h h' => absurd h h'⟩
theorem Fol.trans {now : Int} {a b c : Mst} (h1 : Fol now a b) (h2 : Fol now b c) : Fol now a c := by
  refine ⟨h2.ok, h2.heard.trans h1.heard, h2.pat.trans h1.pat, h2.nodes.trans h1.nodes, h2.sum.trans h1.sum, ?_, fun y hy => h1.mem y (h2.mem y hy), fun y hy hw => h1.wh y (h2.mem y hy) (h2.wh y hy hw), fun y hy hn => ?_⟩
  · rcases h2.ch with e | e
    · rw [e]; exact h1.ch
    · rcases h1.ch with e1 | e1
      · rw [e1] at e; exact .inr e
      · exact .inr (by omega)
  · by_cases hb : y ∈ b.ch.mem
    · have := h2.gone y hb hn
      rw [h1.heard, h1.pat] at this
      exact this
    · exact h1.gone y hy hb
theorem Fol.goes {now : Int} {a b : Mst} (h : Fol now a b) {n : Int} (hg : b.goes n = true) : a.goes n = true := by
  obtain ⟨y, hy, hne, hw⟩ := Mst.goes_iff.1 hg
  exact Mst.goes_iff.2 ⟨y, h.mem y hy, hne, h.wh y hy hw⟩
theorem fol_out (h : okM m) {n now : Int} (hl : m.late n now) (hm : m.has n = true) (he : m.ch.epoch < 1099511627776) : Fol now m (m.out n).1 := by
  have o := h.out_of hl.2 hm he
  have hn := h.hasIn hm
  have e := o.e
  have len := o.len
  refine ⟨h.out_ok hl.2, o.heard, o.pat, o.nodes, by omega, .inr (by omega), fun y hy => by rw [o.mem] at hy; exact (List.mem_filter.1 hy).1, fun y hy hw => ?_, fun y hy hny => ?_⟩
  · rw [o.mem] at hy
    have hy1 := (List.mem_filter.1 hy).1
    have hy2 : y.1 ≠ n := by simpa using (List.mem_filter.1 hy).2
    unfold Mst.wh at hw ⊢
    rw [o.whole, wh_set h.wl hn (h.node hy1), if_neg hy2] at hw
    exact hw
  · by_cases hyn : y.1 = n
    · rw [hyn]; exact hl.1
    · exact absurd (by rw [o.mem]; exact List.mem_filter.2 ⟨hy, by simpa using hyn⟩) hny
theorem out_none {n : Int} (h : okM m) (hm : m.has n = false) : m.out n = (m, false) := by
  have ha : atC m.ch.mem n < 0 := by
    rcases Int.lt_or_le (atC m.ch.mem n) 0 with h1 | h1
    · exact h1
    · have := (Mst.has_iff h.ok n).2 h1
      rw [hm] at this; cases this
  have hl : leavesC m.ch n ≠ 0 := by
    unfold leavesC
    split <;> omega
  unfold Mst.out
  rw [if_pos (by unfold withoutC; rw [if_pos hl]; exact hl)]
theorem fol_tick1 (h : okM m) (he : m.ch.epoch + m.ch.mem.length ≤ 1099511627776) (now : Int) (x : Int × Int) : Fol now m (m.tick1 now x) := by
  unfold Mst.tick1
  have := h.ok.l1
  split
  · rename_i hl
    by_cases hm : m.has x.1 = true
    · exact fol_out h hl hm (by omega)
    · rw [out_none h (by simpa using hm)]; exact .refl h now
  · exact .refl h now
theorem fol_fold (now : Int) : ∀ (l : List (Int × Int)) {m : Mst} (_ : okM m) (_ : m.ch.epoch + m.ch.mem.length ≤ 1099511627776),
    Fol now m (l.foldl (Mst.tick1 now) m) ∧ ∀ x ∈ l, (l.foldl (Mst.tick1 now) m).has x.1 = true → nearT now - m.heard.getD x.1.toNat 0 > m.patience → (l.foldl (Mst.tick1 now) m).goes x.1 = false
  | [], _, h, _ => ⟨.refl h now, by simp⟩
  | x :: l, m, h, he => by
    have f1 := fol_tick1 h he now x
    obtain ⟨f2, hb⟩ := fol_fold now l f1.ok (by have := f1.sum; omega)
    refine ⟨f1.trans f2, fun y hy hin hlt => ?_⟩
    rcases List.mem_cons.1 hy with rfl | hy
    · rw [List.foldl_cons] at hin ⊢
      rw [Bool.eq_false_iff]
      intro hg
      have hg1 := f1.goes (f2.goes hg)
      obtain ⟨z, hz, hzn⟩ := List.mem_map.1 ((Mst.has_mem f2.ok.ok y.1).1 hin)
      have hz1 := f2.mem z hz
      have hz0 := f1.mem z hz1
      have hm : m.has y.1 = true := (Mst.has_mem h.ok y.1).2 (List.mem_map.2 ⟨z, hz0, hzn⟩)
      have e1 : m.tick1 now y = (m.out y.1).1 := by unfold Mst.tick1; rw [if_pos ⟨hlt, hg1⟩]
      have := h.ok.l1
      have o := h.out_of hg1 hm (by omega)
      rw [e1, o.mem] at hz1
      have := (List.mem_filter.1 hz1).2
      simp [hzn] at this
    · exact hb y hy hin (by rw [f1.heard, f1.pat]; exact hlt)
theorem tick_law (h : okM m) (he : m.ch.epoch + m.ch.mem.length ≤ 1099511627776) (now : Int) : Fol now m (m.tick now) ∧ ∀ x ∈ m.ch.mem, (m.tick now).has x.1 = true → nearT now - m.heard.getD x.1.toNat 0 > m.patience → (m.tick now).goes x.1 = false := fol_fold now _ h he
theorem rise_tick (h : okM m) (he : m.ch.epoch + m.ch.mem.length ≤ 1099511627776) (now : Int) : Rise m (m.tick now) := by
  obtain ⟨f, _⟩ := tick_law h he now
  have h1 := f.sum
  have h2 := h.ok.l2
  refine ⟨f.ok, ?_, by omega, f.nodes⟩
  rcases f.ch with e | e
  · exact .inl e
  · exact .inr ⟨e, .inr f.sum⟩
theorem whole_any (m : Mst) : (m.ch.mem.any fun x => m.wh x.1) = true ↔ ∃ x ∈ m.ch.mem, m.wh x.1 = true := by simp [List.any_eq_true]
end Go.Codec
