/- Configurations: the plain law. No program is named. -/
import Derived.Test.YtljipmhkpnigkaaV12
namespace Go.Codec

structure Cfg where
  nodes : Int
  chain : Int
  clients : Int
  quanta : List Int
  queue : Int
  window : Int
  reads : Int
  link : Int
  patience : Int
  timeout : Int
  budget : Int
  refill : Int
deriving DecidableEq
/-- a number that is brought within -/
def near (n lo hi : Int) : Int := max lo (min n hi)
def fitQ (l : List Int) : List Int := if l = [] then [96] else (l.take 4).map fun q => near q 96 65536
def fitS (c : Cfg) : Cfg := ⟨near c.nodes 1 6, near c.chain 1 (near c.nodes 1 6), near c.clients 1 6, fitQ c.quanta, near c.queue 1 16, near c.window 1 16, near c.reads 1 16, near c.link 4 64, near c.patience 4 64, near c.timeout 4 64, near c.budget 0 16, near c.refill 1 1099511627776⟩
def inS (n lo hi : Int) : Prop := lo ≤ n ∧ n ≤ hi
instance (n lo hi : Int) : Decidable (inS n lo hi) := inferInstanceAs (Decidable (_ ∧ _))
structure okS (c : Cfg) : Prop where
  nodes : inS c.nodes 1 6
  chain : inS c.chain 1 c.nodes
  clients : inS c.clients 1 6
  few : inS c.quanta.length 1 4
  quanta : ∀ q ∈ c.quanta, inS q 96 65536
  queue : inS c.queue 1 16
  window : inS c.window 1 16
  reads : inS c.reads 1 16
  link : inS c.link 4 64
  patience : inS c.patience 4 64
  timeout : inS c.timeout 4 64
  budget : inS c.budget 0 16
  refill : inS c.refill 1 1099511627776
theorem near_in {n lo hi : Int} (h : lo ≤ hi) : inS (near n lo hi) lo hi := by unfold near inS; omega
theorem near_id {n lo hi : Int} (h : inS n lo hi) : near n lo hi = n := by unfold near; unfold inS at h; omega
theorem near_eq {n lo hi : Int} (hl : lo ≤ hi) (h : near n lo hi = n) : inS n lo hi := h ▸ near_in hl
theorem fitQ_len (l : List Int) : (fitQ l).length = if l = [] then 1 else min 4 l.length := by unfold fitQ; split <;> simp
theorem fitS_ok (c : Cfg) : okS (fitS c) := by
  have hn := near_in (n := c.nodes) (lo := 1) (hi := 6) (by omega)
  refine ⟨hn, near_in hn.1, near_in (by omega), ?_, ?_, near_in (by omega), near_in (by omega), near_in (by omega), near_in (by omega), near_in (by omega), near_in (by omega), near_in (by omega), near_in (by omega)⟩
  · show inS ((fitQ c.quanta).length : Nat) 1 4
    rw [fitQ_len]; unfold inS
    split
    · omega
    · rename_i h
      have := List.length_pos_iff.2 h
      omega
  · intro q hq
    replace hq : q ∈ fitQ c.quanta := hq
    unfold fitQ at hq
    split at hq
    · simp at hq; subst hq; unfold inS; omega
    · obtain ⟨x, _, rfl⟩ := List.mem_map.1 hq
      exact near_in (by omega)
theorem fitQ_id {l : List Int} (hf : inS l.length 1 4) (h : ∀ q ∈ l, inS q 96 65536) : fitQ l = l := by
  unfold inS at hf
  unfold fitQ
  rw [if_neg (by intro h0; subst h0; simp at hf), List.take_of_length_le (by omega)]
  conv => rhs; rw [← List.map_id l]
  exact List.map_congr_left fun q hq => near_id (h q hq)
theorem fitS_id {c : Cfg} (h : okS c) : fitS c = c := by
  unfold fitS
  rw [near_id h.nodes, near_id h.chain, near_id h.clients, fitQ_id h.few h.quanta, near_id h.queue, near_id h.window, near_id h.reads, near_id h.link, near_id h.patience, near_id h.timeout, near_id h.budget, near_id h.refill]
theorem okS_iff {c : Cfg} : c = fitS c ↔ okS c := ⟨fun h => h ▸ fitS_ok c, fun h => (fitS_id h).symm⟩
instance (c : Cfg) : Decidable (okS c) := decidable_of_iff _ okS_iff
def chkS (c : Cfg) : Int := if okS c then 0 else 2
theorem chkS_ok {c : Cfg} : chkS c = 0 ↔ okS c := by unfold chkS; split <;> simp_all
/-- the first chain's members -/
def rowS (n : Nat) : List (Int × Int) := (List.range n).map fun (i : Nat) => ((i : Int), (1 : Int))
def firstS (c : Cfg) : Chn := ⟨1, rowS c.chain.toNat, -1⟩
theorem rowS_len (n : Nat) : (rowS n).length = n := by simp [rowS]
theorem rowS_succ (n : Nat) : rowS (n + 1) = rowS n ++ [((n : Int), 1)] := by simp [rowS, List.range_succ]
theorem rowS_at {n i : Nat} (h : i < n) : (rowS n)[i]'(by rw [rowS_len]; exact h) = ((i : Int), 1) := by simp [rowS]
theorem firstS_ok {c : Cfg} (h : okS c) : okC (firstS c) := by
  have h1 := h.nodes; have h2 := h.chain
  unfold inS at h1 h2
  refine (okC_iff _).2 ⟨by simp [firstS], by simp [firstS], ?_, ?_, ?_, ?_, .inl rfl⟩
  · show 1 ≤ (rowS c.chain.toNat).length; rw [rowS_len]; omega
  · show (rowS c.chain.toNat).length ≤ 6; rw [rowS_len]; omega
  · intro m hm
    replace hm : m ∈ rowS c.chain.toNat := hm
    obtain ⟨i, hi, rfl⟩ := List.mem_map.1 hm
    rw [List.mem_range] at hi
    show goodM 1 _
    unfold goodM; simp only; omega
  · show ((rowS c.chain.toNat).map (·.1)).Nodup
    unfold rowS
    rw [List.map_map]
    rw [List.nodup_iff_pairwise_ne, List.pairwise_map]
    exact List.Pairwise.imp (fun h => by simp only [Function.comp]; omega) List.pairwise_lt_range
theorem firstS_ends {c : Cfg} (h : okS c) : headC (firstS c) = 0 ∧ tailC (firstS c) = c.chain - 1 := by
  have h1 := h.nodes; have h2 := h.chain
  unfold inS at h1 h2
  have hk := chkC_ok.2 (firstS_ok h)
  have hl : (firstS c).mem.length = c.chain.toNat := rowS_len _
  have hat : ∀ i : Nat, i < c.chain.toNat → ((firstS c).mem.getD i (0, 0)).1 = i := fun i hi => by
    rw [List.getD_eq_getElem?_getD, List.getElem?_eq_getElem (by rw [hl]; exact hi)]
    show ((rowS c.chain.toNat)[i]'(by rw [rowS_len]; exact hi)).1 = i
    rw [rowS_at hi]
  unfold headC tailC memC
  rw [if_neg (by rw [hl]; omega), if_neg (by rw [hl]; omega)]
  constructor
  · have := hat 0 (by omega); simpa using this
  · have := hat (c.chain.toNat - 1) (by omega)
    rw [hl, show ((c.chain.toNat : Int) - 1).toNat = c.chain.toNat - 1 by omega, this]; omega
theorem okS_conj (c : Cfg) : okS c ↔ (inS c.nodes 1 6 ∧ inS c.chain 1 c.nodes ∧ inS c.clients 1 6 ∧ inS c.quanta.length 1 4 ∧ ∀ q ∈ c.quanta, inS q 96 65536) ∧ inS c.queue 1 16 ∧ inS c.window 1 16 ∧ inS c.reads 1 16 ∧ inS c.link 4 64 ∧ inS c.patience 4 64 ∧ inS c.timeout 4 64 ∧ inS c.budget 0 16 ∧ inS c.refill 1 1099511627776 :=
  ⟨fun h => ⟨⟨h.nodes, h.chain, h.clients, h.few, h.quanta⟩, h.queue, h.window, h.reads, h.link, h.patience, h.timeout, h.budget, h.refill⟩,
   fun ⟨⟨a, b, c, d, e⟩, f, g, h, i, j, k, l, m⟩ => ⟨a, b, c, d, e, f, g, h, i, j, k, l, m⟩⟩
theorem all_take {l : List Int} {j : Nat} {P : Int → Prop} (h : j < l.length) : (∀ q ∈ l.take (j + 1), P q) ↔ (∀ q ∈ l.take j, P q) ∧ P l[j] := by
  rw [List.take_succ_eq_append_getElem h]
  simp only [List.mem_append, List.mem_singleton]
  exact ⟨fun hh => ⟨fun q hq => hh q (.inl hq), hh _ (.inr rfl)⟩, fun ⟨h1, h2⟩ q hq => hq.elim (h1 q) (fun e => e ▸ h2)⟩
end Go.Codec
