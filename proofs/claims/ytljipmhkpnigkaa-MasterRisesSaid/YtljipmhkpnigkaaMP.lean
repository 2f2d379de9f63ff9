/- A master: the plain law. No program is named. -/
import Derived.Test.YtljipmhkpnigkaaSP
namespace Go.Codec

structure Mst where
  nodes : Int
  patience : Int
  ch : Chn
  heard : List Int
  whole : List Bool
def nearT (n : Int) : Int := min (max n 0) 1099511627776
def Mst.has (m : Mst) (n : Int) : Bool := (sinceC m.ch n).2
def Mst.wh (m : Mst) (n : Int) : Bool := m.whole.getD n.toNat false
def Mst.goes (m : Mst) (n : Int) : Bool := m.ch.mem.any fun x => x.1 != n && m.wh x.1
def Mst.out (m : Mst) (n : Int) : Mst × Bool := if (withoutC m.ch n).2 ≠ 0 then (m, false) else (⟨m.nodes, m.patience, (withoutC m.ch n).1, m.heard, m.whole.set n.toNat false⟩, true)
def Mst.alive (m : Mst) (n epoch index now : Int) : Mst :=
  ⟨m.nodes, m.patience, m.ch, m.heard.set n.toNat now, if epoch = m.ch.epoch ∧ m.has n = true ∧ index = 1 then m.whole.set n.toNat true else m.whole⟩
def Mst.leaves (m : Mst) (n : Int) : Int := if m.has n then (if m.goes n then 0 else 72) else 4
def Mst.suspect (m : Mst) (n : Int) : Mst × Int := if m.leaves n ≠ 0 then (m, m.leaves n) else ((m.out n).1, 0)
def Mst.join (m : Mst) (n now : Int) : Mst × Int :=
  if n < 0 ∨ m.nodes ≤ n then (m, 2) else if (withC m.ch n).2 ≠ 0 then (m, (withC m.ch n).2)
  else (⟨m.nodes, m.patience, (withC m.ch n).1, m.heard.set n.toNat (nearT now), m.whole.set n.toNat false⟩, 0)
def Mst.drain (m : Mst) (n : Int) : Mst × Int :=
  if m.leaves n ≠ 0 then (m, m.leaves n) else if (drainC m.ch n).2 ≠ 0 then (m, (drainC m.ch n).2) else (⟨m.nodes, m.patience, (drainC m.ch n).1, m.heard, m.whole⟩, 0)
def Mst.drained (m : Mst) (n epoch : Int) : Mst × Bool :=
  if epoch = m.ch.epoch ∧ m.ch.drain = n ∧ m.goes n = true then m.out n else (m, false)
def Mst.late (m : Mst) (n now : Int) : Prop := nearT now - m.heard.getD n.toNat 0 > m.patience ∧ m.goes n = true
instance (m : Mst) (n now : Int) : Decidable (m.late n now) := inferInstanceAs (Decidable (_ ∧ _))
def Mst.tick1 (now : Int) (m : Mst) (x : Int × Int) : Mst := if m.late x.1 now then (m.out x.1).1 else m
def Mst.tick (m : Mst) (now : Int) : Mst := m.ch.mem.foldl (Mst.tick1 now) m
def Mst.new (c : Cfg) : Mst := ⟨c.nodes, c.patience, firstS c, List.replicate 6 0, (List.range 6).map fun (i : Nat) => decide ((i : Int) < c.chain)⟩

structure okM (m : Mst) : Prop where
  ok : okC m.ch
  n1 : 1 ≤ m.nodes
  n2 : m.nodes ≤ 6
  p1 : 0 ≤ m.patience
  p2 : m.patience ≤ 1099511627776
  hl : m.heard.length = 6
  wl : m.whole.length = 6
  hr : ∀ h ∈ m.heard, 0 ≤ h ∧ h ≤ 1099511627776
  full : ∃ x ∈ m.ch.mem, m.wh x.1 = true

theorem nearT_in (n : Int) : 0 ≤ nearT n ∧ nearT n ≤ 1099511627776 := by unfold nearT; omega
theorem Mst.has_iff {m : Mst} (h : okC m.ch) (n : Int) : m.has n = true ↔ 0 ≤ atC m.ch.mem n := by
  unfold Mst.has sinceC
  split
  · rename_i h1
    rcases h1 with h1 | h1
    · simp; omega
    · exact absurd (chkC_ok.2 h) h1
  · rename_i h1; simp; omega
theorem Mst.has_mem {m : Mst} (h : okC m.ch) (n : Int) : m.has n = true ↔ n ∈ m.ch.mem.map (·.1) := by rw [Mst.has_iff h, atC_mem]
theorem Mst.goes_iff {m : Mst} {n : Int} : m.goes n = true ↔ ∃ x ∈ m.ch.mem, x.1 ≠ n ∧ m.wh x.1 = true := by unfold Mst.goes; simp [List.any_eq_true]
theorem wh_set {l : List Bool} (hl : l.length = 6) {n k : Int} {b : Bool} (hn : 0 ≤ n ∧ n < 6) (hk : 0 ≤ k ∧ k < 6) : (l.set n.toNat b).getD k.toNat false = if k = n then b else l.getD k.toNat false := by
  by_cases h : k = n
  · subst h; rw [if_pos rfl, List.getD_eq_getElem?_getD, List.getElem?_set_self (by omega)]; rfl
  · rw [if_neg h, List.getD_eq_getElem?_getD, List.getElem?_set_ne (by omega), List.getD_eq_getElem?_getD]
theorem heard_set {l : List Int} (hl : l.length = 6) {n k : Int} {b : Int} (hn : 0 ≤ n ∧ n < 6) (hk : 0 ≤ k ∧ k < 6) : (l.set n.toNat b).getD k.toNat 0 = if k = n then b else l.getD k.toNat 0 := by
  by_cases h : k = n
  · subst h; rw [if_pos rfl, List.getD_eq_getElem?_getD, List.getElem?_set_self (by omega)]; rfl
  · rw [if_neg h, List.getD_eq_getElem?_getD, List.getElem?_set_ne (by omega), List.getD_eq_getElem?_getD]
variable {m : Mst}
theorem okM.node (h : okM m) {x : Int × Int} (hx : x ∈ m.ch.mem) : 0 ≤ x.1 ∧ x.1 < 6 := ⟨(h.ok.good x hx).1, (h.ok.good x hx).2.1⟩
theorem okM.hasIn (h : okM m) {n : Int} (hn : m.has n = true) : 0 ≤ n ∧ n < 6 := by
  obtain ⟨x, hx, rfl⟩ := List.mem_map.1 ((Mst.has_mem h.ok n).1 hn)
  exact h.node hx
/-- who may go, and has an epoch left, goes -/
theorem okM.out (h : okM m) {n : Int} (hg : m.goes n = true) (hm : m.has n = true) (he : m.ch.epoch < 1099511627776) :
    (withoutC m.ch n).2 = 0 := by
  have ha := (Mst.has_iff h.ok n).1 hm
  have hl : leavesC m.ch n = 0 := by
    unfold leavesC
    rw [if_neg (by rintro (h1 | h1); exact h1 (chkC_ok.2 h.ok); omega), if_neg (by omega), if_neg (fun hl => ?_)]
    obtain ⟨x, hx, hne, _⟩ := Mst.goes_iff.1 hg
    obtain ⟨y, hy, rfl⟩ := List.mem_map.1 ((Mst.has_mem h.ok n).1 hm)
    obtain ⟨z, hz⟩ := List.length_eq_one_iff.1 hl
    rw [hz, List.mem_singleton] at hx hy
    subst hx; subst hy; exact hne rfl
  unfold withoutC
  rw [if_neg (by omega)]
theorem okM.out_ok (h : okM m) {n : Int} (hg : m.goes n = true) : okM (m.out n).1 := by
  unfold Mst.out
  split
  · exact h
  · rename_i h1
    have h2 : (withoutC m.ch n).2 = 0 := by omega
    obtain ⟨_, he, _⟩ := without_ok h2
    refine ⟨without_okC h2, h.n1, h.n2, h.p1, h.p2, h.hl, by simp [h.wl], h.hr, ?_⟩
    obtain ⟨x, hx, hne, hw⟩ := Mst.goes_iff.1 hg
    have hn : 0 ≤ n ∧ n < 6 := h.hasIn ((Mst.has_iff h.ok n).2 (leaves_ok (without_ok h2).1).2.2.1)
    refine ⟨x, by rw [he]; exact List.mem_filter.2 ⟨hx, by simpa using hne⟩, ?_⟩
    show (m.whole.set n.toNat false).getD x.1.toNat false = true
    rw [wh_set h.wl hn (h.node hx), if_neg hne]; exact hw
theorem okM.alive_ok (h : okM m) {n : Int} (hn : 0 ≤ n ∧ n < 6) (e i : Int) {now : Int} (hnow : 0 ≤ now ∧ now ≤ 1099511627776) : okM (m.alive n e i now) := by
  refine ⟨h.ok, h.n1, h.n2, h.p1, h.p2, by show (m.heard.set _ _).length = 6; rw [List.length_set, h.hl], ?_, fun x hx => ?_, ?_⟩
  · show (if _ then _ else _ : List Bool).length = 6
    split <;> simp [h.wl]
  · rcases List.mem_or_eq_of_mem_set hx with hx | rfl
    · exact h.hr x hx
    · exact hnow
  · obtain ⟨x, hx, hw⟩ := h.full
    refine ⟨x, hx, ?_⟩
    show (if _ then _ else _ : List Bool).getD x.1.toNat false = true
    split
    · rw [wh_set h.wl hn (h.node hx)]; split
      · rfl
      · exact hw
    · exact hw
theorem okM.suspect_ok (h : okM m) (n : Int) : okM (m.suspect n).1 := by
  unfold Mst.suspect
  split
  · exact h
  · rename_i h1
    refine h.out_ok ?_
    unfold Mst.leaves at h1
    split at h1
    · split at h1
      · assumption
      · omega
    · omega
theorem okM.drain_ok (h : okM m) (n : Int) : okM (m.drain n).1 := by
  unfold Mst.drain
  split
  · exact h
  · split
    · exact h
    · rename_i h2
      have h3 : (drainC m.ch n).2 = 0 := by omega
      refine ⟨drain_okC h3, h.n1, h.n2, h.p1, h.p2, h.hl, h.wl, h.hr, ?_⟩
      obtain ⟨_, _, he⟩ := Go.Codec.drain_ok h3
      obtain ⟨x, hx, hw⟩ := h.full
      exact ⟨x, by rw [he]; exact hx, hw⟩
theorem okM.join_ok (h : okM m) (n now : Int) : okM (m.join n now).1 := by
  unfold Mst.join
  split
  · exact h
  · split
    · exact h
    · rename_i h1 h2
      have h3 : (withC m.ch n).2 = 0 := by omega
      obtain ⟨_, _, h4, h5, h6, he⟩ := with_ok h3
      refine ⟨with_okC h3, h.n1, h.n2, h.p1, h.p2, by simp [h.hl], by simp [h.wl], fun x hx => ?_, ?_⟩
      · rcases List.mem_or_eq_of_mem_set hx with hx | rfl
        · exact h.hr x hx
        · exact nearT_in now
      · obtain ⟨x, hx, hw⟩ := h.full
        refine ⟨x, by rw [he]; exact List.mem_append.2 (.inl hx), ?_⟩
        show (m.whole.set n.toNat false).getD x.1.toNat false = true
        rw [wh_set h.wl ⟨h4, h5⟩ (h.node hx), if_neg (fun hh => ?_)]
        · exact hw
        · have := (atC_mem (l := m.ch.mem) (n := n)).2 (List.mem_map.2 ⟨x, hx, hh⟩)
          omega
theorem okM.drained_ok (h : okM m) (n e : Int) : okM (m.drained n e).1 := by
  unfold Mst.drained
  split
  · rename_i h1; exact h.out_ok h1.2.2
  · exact h
theorem okM.tick1_ok (h : okM m) (now : Int) (x : Int × Int) : okM (m.tick1 now x) := by
  unfold Mst.tick1
  split
  · rename_i h1; exact h.out_ok h1.2
  · exact h
theorem okM.fold_ok : ∀ (l : List (Int × Int)) {m : Mst} (_ : okM m) (now : Int), okM (l.foldl (Mst.tick1 now) m)
  | [], _, h, _ => h
  | x :: l, _, h, now => okM.fold_ok l (h.tick1_ok now x) now
theorem okM.tick_ok (h : okM m) (now : Int) : okM (m.tick now) := okM.fold_ok _ h now
theorem okM.new_ok {c : Cfg} (h : okS c) (hf : okC (firstS c)) : okM (Mst.new c) := by
  obtain ⟨h1, h2⟩ := h.nodes
  obtain ⟨h3, h4⟩ := h.chain
  obtain ⟨h5, h6⟩ := h.patience
  refine ⟨hf, h1, h2, by show 0 ≤ c.patience; omega, by show c.patience ≤ _; omega, rfl, rfl, fun x hx => by rw [List.eq_of_mem_replicate hx]; omega, (0, 1), ?_, ?_⟩
  · show (0, 1) ∈ rowS c.chain.toNat
    unfold rowS
    exact List.mem_map.2 ⟨0, List.mem_range.2 (by omega), rfl⟩
  · show decide _ = true
    exact decide_eq_true (show ((0 : Nat) : Int) < c.chain by omega)
end Go.Codec
