/- Chains, their moves and their bytes, in plain Lean. No program is named. -/
import Derived.Test.YtljipmhkpnigkaaV10
namespace Go.Codec

structure Chn where
  epoch : Int
  mem : List (Int × Int)
  drain : Int
  deriving DecidableEq
def Chn.none : Chn := ⟨0, [], 0⟩
def atC : List (Int × Int) → Int → Int
  | [], _ => -1
  | m :: r, n => if m.1 = n then 0 else if atC r n < 0 then -1 else atC r n + 1
theorem atC_cases : ∀ (l : List (Int × Int)) (n : Int), (atC l n = -1 ∧ ∀ m ∈ l, m.1 ≠ n) ∨ ∃ (i : Nat) (h : i < l.length), atC l n = i ∧ l[i].1 = n ∧ ∀ (j : Nat) (hj : j < l.length), j < i → l[j].1 ≠ n
  | [], n => .inl ⟨rfl, fun _ h => by cases h⟩
  | m :: r, n => by
    unfold atC
    by_cases hm : m.1 = n
    · rw [if_pos hm]
      exact .inr ⟨0, by simp, rfl, hm, fun j _ hj => by omega⟩
    · rw [if_neg hm]
      rcases atC_cases r n with ⟨h1, h2⟩ | ⟨i, hi, h1, h2, h3⟩
      · rw [h1, if_pos (by decide)]
        refine .inl ⟨rfl, fun x hx => ?_⟩
        rcases List.mem_cons.1 hx with rfl | hx
        · exact hm
        · exact h2 x hx
      · rw [h1, if_neg (by omega)]
        refine .inr ⟨i + 1, by simpa using hi, by simp, by simpa using h2, fun j hj hlt => ?_⟩
        match j with
        | 0 => simpa using hm
        | j + 1 => simpa using h3 j (by simpa using hj) (by omega)
theorem atC_lt (l : List (Int × Int)) (n : Int) : -1 ≤ atC l n ∧ atC l n < l.length := by
  rcases atC_cases l n with ⟨h1, _⟩ | ⟨i, hi, h1, _⟩ <;> omega
theorem atC_eq {l : List (Int × Int)} {n : Int} {i : Nat} (hi : i < l.length) (h : l[i].1 = n) (hb : ∀ (j : Nat) (hj : j < l.length), j < i → l[j].1 ≠ n) : atC l n = i := by
  rcases atC_cases l n with ⟨_, h2⟩ | ⟨k, hk, h1, h2, h3⟩
  · exact absurd h (h2 _ (List.getElem_mem hi))
  · rw [h1]
    rcases Nat.lt_trichotomy i k with hlt | he | hlt
    · exact absurd h (h3 i hi hlt)
    · rw [he]
    · exact absurd h2 (hb k hk hlt)
theorem atC_no {l : List (Int × Int)} {n : Int} (h : ∀ m ∈ l, m.1 ≠ n) : atC l n = -1 := by
  rcases atC_cases l n with ⟨h1, _⟩ | ⟨k, hk, h1, h2, _⟩
  · exact h1
  · exact absurd h2 (h _ (List.getElem_mem hk))
theorem atC_mem {l : List (Int × Int)} {n : Int} : 0 ≤ atC l n ↔ n ∈ l.map (·.1) := by
  rcases atC_cases l n with ⟨h1, h2⟩ | ⟨k, hk, h1, h2, _⟩
  · constructor
    · intro h; omega
    · intro h
      obtain ⟨m, hm, rfl⟩ := List.mem_map.1 h
      exact absurd rfl (h2 m hm)
  · constructor
    · intro _; rw [← h2]; exact List.mem_map.2 ⟨_, List.getElem_mem hk, rfl⟩
    · intro _; omega

def goodM (e : Int) (m : Int × Int) : Prop := 0 ≤ m.1 ∧ m.1 < 6 ∧ 1 ≤ m.2 ∧ m.2 ≤ e
instance (e : Int) (m : Int × Int) : Decidable (goodM e m) := by unfold goodM; infer_instance
structure okC (c : Chn) : Prop where
  e1 : 1 ≤ c.epoch
  e2 : c.epoch ≤ 1099511627776
  l1 : 1 ≤ c.mem.length
  l2 : c.mem.length ≤ 6
  good : ∀ m ∈ c.mem, goodM c.epoch m
  nodup : (c.mem.map (·.1)).Nodup
  drain_ : c.drain = -1 ∨ c.drain ∈ c.mem.map (·.1)
theorem okC_iff (c : Chn) : okC c ↔ 1 ≤ c.epoch ∧ c.epoch ≤ 1099511627776 ∧ 1 ≤ c.mem.length ∧ c.mem.length ≤ 6 ∧ (∀ m ∈ c.mem, goodM c.epoch m) ∧ (c.mem.map (·.1)).Nodup ∧ (c.drain = -1 ∨ c.drain ∈ c.mem.map (·.1)) :=
  ⟨fun h => ⟨h.1, h.2, h.3, h.4, h.5, h.6, h.7⟩, fun ⟨a, b, c, d, e, f, g⟩ => ⟨a, b, c, d, e, f, g⟩⟩
instance (c : Chn) : Decidable (okC c) := decidable_of_iff _ (okC_iff c).symm
def chkC (c : Chn) : Int := if okC c then 0 else 2
theorem chkC_ok {c : Chn} : chkC c = 0 ↔ okC c := by
  unfold chkC
  by_cases h : okC c
  · rw [if_pos h]; simp [h]
  · rw [if_neg h]; simp [h]
theorem chkC_no {c : Chn} (h : ¬ okC c) : chkC c = 2 := by unfold chkC; rw [if_neg h]
theorem nodup_lt {l : List Int} : l.Nodup ↔ ∀ (i : Nat) (hi : i < l.length) (k : Nat) (hk : k < i), l[k]'(by omega) ≠ l[i] := by
  rw [List.nodup_iff_pairwise_ne, List.pairwise_iff_getElem]
  constructor
  · intro h i hi k hk; exact h k i (by omega) hi hk
  · intro h i j hi hj hij; exact h j hj i hij
theorem nodup_at {l : List (Int × Int)} : (l.map (·.1)).Nodup ↔ ∀ (i : Nat) (hi : i < l.length), atC l l[i].1 = i := by
  rw [nodup_lt]
  constructor
  · intro h i hi
    refine atC_eq hi rfl fun j hj hlt => ?_
    have := h i (by simpa using hi) j hlt
    simpa using this
  · intro h i hi k hk he
    have hi' : i < l.length := by simpa using hi
    have h1 := h i hi'
    have h2 := h k (by omega)
    simp only [List.getElem_map] at he
    rw [he, h1] at h2
    omega

theorem okC_at {c : Chn} : okC c ↔ 1 ≤ c.epoch ∧ c.epoch ≤ 1099511627776 ∧ 1 ≤ c.mem.length ∧ c.mem.length ≤ 6 ∧ (∀ (i : Nat) (h : i < c.mem.length), goodM c.epoch c.mem[i] ∧ atC c.mem c.mem[i].1 = i) ∧ (c.drain = -1 ∨ 0 ≤ atC c.mem c.drain) := by
  rw [okC_iff, nodup_at, atC_mem]
  constructor
  · rintro ⟨a, b, d, e, f, g, h⟩
    exact ⟨a, b, d, e, fun i hi => ⟨f _ (List.getElem_mem hi), g i hi⟩, h⟩
  · rintro ⟨a, b, d, e, f, h⟩
    exact ⟨a, b, d, e, fun m hm => by obtain ⟨i, hi, rfl⟩ := List.getElem_of_mem hm; exact (f i hi).1, fun i hi => (f i hi).2, h⟩
def memC (c : Chn) (i : Int) : Int := if i < 0 ∨ c.mem.length ≤ i ∨ chkC c ≠ 0 then -1 else (c.mem.getD i.toNat (0, 0)).1
def headC (c : Chn) : Int := memC c 0
def tailC (c : Chn) : Int := memC c (c.mem.length - 1)
def nextC (c : Chn) (n : Int) : Int := if atC c.mem n < 0 then -1 else memC c (atC c.mem n + 1)
def prevC (c : Chn) (n : Int) : Int := memC c (atC c.mem n - 1)
def sinceC (c : Chn) (n : Int) : Int × Bool := if atC c.mem n < 0 ∨ chkC c ≠ 0 then (0, false) else ((c.mem.getD (atC c.mem n).toNat (0, 0)).2, true)
def withC (c : Chn) (n : Int) : Chn × Int := if chkC c ≠ 0 ∨ c.epoch = 1099511627776 ∨ n < 0 ∨ 6 ≤ n then (.none, 2) else if 0 ≤ atC c.mem n then (.none, 62) else (⟨c.epoch + 1, c.mem ++ [(n, c.epoch + 1)], c.drain⟩, 0)
def leavesC (c : Chn) (n : Int) : Int := if chkC c ≠ 0 ∨ c.epoch = 1099511627776 then 2 else if atC c.mem n < 0 then 4 else if c.mem.length = 1 then 72 else 0
def withoutC (c : Chn) (n : Int) : Chn × Int := if leavesC c n ≠ 0 then (.none, leavesC c n) else (⟨c.epoch + 1, c.mem.eraseIdx (atC c.mem n).toNat, if c.drain = n then -1 else c.drain⟩, 0)
def drainC (c : Chn) (n : Int) : Chn × Int := if leavesC c n ≠ 0 then (.none, leavesC c n) else if 0 ≤ c.drain then (.none, 62) else (⟨c.epoch + 1, c.mem, n⟩, 0)
def stepC (c : Chn) (n by_ : Int) : Int := if chkC c ≠ 0 ∨ atC c.mem n < 0 ∨ atC c.mem n + by_ < 0 ∨ c.mem.length ≤ atC c.mem n + by_ then -1 else (c.mem.getD (atC c.mem n + by_).toNat (0, 0)).1
def endsC (c : Chn) : Int × Int := if chkC c ≠ 0 then (-1, -1) else ((c.mem.getD 0 (0, 0)).1, (c.mem.getD (c.mem.length - 1) (0, 0)).1)
theorem step_next (c : Chn) (n : Int) : stepC c n 1 = nextC c n := by
  have := atC_lt c.mem n
  unfold stepC nextC memC
  by_cases h1 : atC c.mem n < 0
  · rw [if_pos (by simp [h1]), if_pos h1]
  · rw [if_neg h1]
    by_cases h : chkC c ≠ 0 ∨ c.mem.length ≤ atC c.mem n + 1
    · rw [if_pos (by omega), if_pos (by omega)]
    · rw [if_neg (by omega), if_neg (by omega)]
theorem step_prev (c : Chn) (n : Int) : stepC c n (-1) = prevC c n := by
  have := atC_lt c.mem n
  unfold stepC prevC memC
  by_cases h : chkC c ≠ 0 ∨ atC c.mem n - 1 < 0
  · rw [if_pos (by omega), if_pos (by omega)]
  · rw [if_neg (by omega), if_neg (by omega)]
    rfl
theorem ends_eq (c : Chn) : endsC c = (headC c, tailC c) := by
  unfold endsC headC tailC memC
  by_cases h : chkC c ≠ 0
  · rw [if_pos h, if_pos (by simp [h]), if_pos (by simp [h])]
  · have h2 := (chkC_ok.1 (Decidable.not_not.1 h)).l1
    rw [if_neg h, if_neg (by omega), if_neg (by omega)]
    rw [show ((c.mem.length : Int) - 1).toNat = c.mem.length - 1 by omega]; rfl
/-- the document's, with all that is not this node -/
theorem erase_at : ∀ (l : List (Int × Int)) (n : Int), (l.map (·.1)).Nodup → 0 ≤ atC l n → l.eraseIdx (atC l n).toNat = l.filter (fun m => decide (m.1 ≠ n))
  | [], n, _, h => by simp [atC] at h
  | m :: r, n, hd, h => by
    simp only [List.map_cons, List.nodup_cons] at hd
    unfold atC at h ⊢
    by_cases hm : m.1 = n
    · rw [if_pos hm]
      simp only [Int.toNat_zero, List.eraseIdx_cons_zero, hm, ne_eq, not_true_eq_false, decide_false, List.filter_cons, Bool.false_eq_true, if_false]
      symm
      rw [List.filter_eq_self]
      intro x hx
      have : x.1 ≠ m.1 := fun he => hd.1 (he ▸ List.mem_map.2 ⟨x, hx, rfl⟩)
      simp only [ne_eq, decide_not, Bool.not_eq_eq_eq_not, Bool.not_true, decide_eq_false_iff_not]
      rw [← hm]; exact this
    · rw [if_neg hm] at h ⊢
      by_cases hr : atC r n < 0
      · rw [if_pos hr] at h; omega
      · rw [if_neg hr]
        rw [show (atC r n + 1).toNat = (atC r n).toNat + 1 by omega, List.eraseIdx_cons_succ, erase_at r n hd.2 (by omega)]
        simp [hm]

theorem with_ok {c : Chn} {n : Int} (h : (withC c n).2 = 0) : okC c ∧ c.epoch < 1099511627776 ∧ 0 ≤ n ∧ n < 6 ∧ atC c.mem n < 0 ∧ (withC c n).1 = ⟨c.epoch + 1, c.mem ++ [(n, c.epoch + 1)], c.drain⟩ := by
  unfold withC at h ⊢
  split at h
  · cases h
  · split at h
    · cases h
    · rename_i h1 h2
      rw [if_neg h1, if_neg h2]
      simp only [not_or, Decidable.not_not] at h1
      have hc := chkC_ok.1 h1.1
      have := hc.e2
      exact ⟨hc, by omega, by omega, by omega, by omega, rfl⟩
theorem nodup_len {l : List Int} {k : Nat} (hd : l.Nodup) (h : ∀ m ∈ l, 0 ≤ m ∧ m < k) : l.length ≤ k := by
  have h1 : (l.map Int.toNat).Nodup := by
    rw [List.nodup_iff_pairwise_ne, List.pairwise_map]
    rw [List.nodup_iff_pairwise_ne] at hd
    refine hd.imp_of_mem fun {a b} ha hb hab he => hab ?_
    have := h a ha; have := h b hb
    omega
  have h2 : ∀ x ∈ l.map Int.toNat, x ∈ List.range k := by
    intro x hx
    obtain ⟨m, hm, rfl⟩ := List.mem_map.1 hx
    have := h m hm
    rw [List.mem_range]; omega
  have h3 : ∀ (k : Nat) (l : List Nat), l.Nodup → (∀ x ∈ l, x < k) → l.length ≤ k := by
    intro k
    induction k with
    | zero =>
      intro l _ h
      match l with
      | [] => simp
      | x :: _ => exact absurd (h x List.mem_cons_self) (by omega)
    | succ k ih =>
      intro l hd h
      have := ih (l.erase k) (hd.erase k) (fun x hx => by
        have := (hd.mem_erase_iff).1 hx
        have := h x this.2
        omega)
      rw [List.length_erase] at this
      split at this <;> omega
  have := h3 k _ h1 (fun x hx => List.mem_range.1 (h2 x hx))
  simpa using this
theorem with_okC {c : Chn} {n : Int} (h : (withC c n).2 = 0) : okC (withC c n).1 := by
  obtain ⟨hc, h1, h2, h3, h4, h5⟩ := with_ok h
  rw [h5]
  have hn : n ∉ c.mem.map (·.1) := fun hh => by have := atC_mem.2 hh; omega
  have hd : ((c.mem ++ [(n, c.epoch + 1)]).map (·.1)).Nodup := by
    rw [List.map_append, List.nodup_append]
    refine ⟨hc.nodup, by simp, ?_⟩
    intro a ha b hb
    simp at hb
    subst hb
    exact fun he => hn (he ▸ ha)
  have hg : ∀ m ∈ c.mem ++ [(n, c.epoch + 1)], goodM (c.epoch + 1) m := by
    intro m hm
    rcases List.mem_append.1 hm with hm | hm
    · obtain ⟨a, b, d, e⟩ := hc.good m hm
      exact ⟨a, b, d, by omega⟩
    · simp at hm
      subst hm
      have := hc.e1
      exact ⟨h2, h3, by simp only; omega, by simp⟩
  refine ⟨?_, ?_, ?_, ?_, hg, hd, ?_⟩
  · have := hc.e1; simp only; omega
  · simp only; omega
  · simp
  · have := nodup_len (k := 6) hd (fun m hm => by
      obtain ⟨x, hx, rfl⟩ := List.mem_map.1 hm
      have := hg x hx
      exact ⟨this.1, this.2.1⟩)
    simpa using this
  · rcases hc.drain_ with h | h
    · exact .inl h
    · exact .inr (by simp only [List.map_append]; exact List.mem_append_left _ h)
theorem leaves_ok {c : Chn} {n : Int} (h : leavesC c n = 0) : okC c ∧ c.epoch < 1099511627776 ∧ 0 ≤ atC c.mem n ∧ 2 ≤ c.mem.length := by
  unfold leavesC at h
  split at h
  · cases h
  · split at h
    · cases h
    · split at h
      · cases h
      · rename_i h1 h2 h3
        simp only [not_or, Decidable.not_not] at h1
        have hc := chkC_ok.1 h1.1
        have := hc.e2
        have := hc.l1
        exact ⟨hc, by omega, by omega, by omega⟩
theorem without_ok {c : Chn} {n : Int} (h : (withoutC c n).2 = 0) : leavesC c n = 0 ∧ (withoutC c n).1 = ⟨c.epoch + 1, c.mem.filter (fun m => decide (m.1 ≠ n)), if c.drain = n then -1 else c.drain⟩ ∧ (c.mem.filter (fun m => decide (m.1 ≠ n))).length = c.mem.length - 1 := by
  have hl : leavesC c n = 0 := by
    unfold withoutC at h
    split at h
    · exact h
    · rename_i hh; simpa using hh
  obtain ⟨hc, h1, h2, h3⟩ := leaves_ok hl
  have he := erase_at c.mem n hc.nodup h2
  refine ⟨hl, ?_, ?_⟩
  · unfold withoutC
    rw [if_neg (by simp [hl]), he]
  · have := atC_lt c.mem n
    rw [← he, List.length_eraseIdx, if_pos (by omega)]
theorem without_okC {c : Chn} {n : Int} (h : (withoutC c n).2 = 0) : okC (withoutC c n).1 := by
  obtain ⟨hl, he, hlen⟩ := without_ok h
  obtain ⟨hc, h1, h2, h3⟩ := leaves_ok hl
  have := hc.l2
  have := hc.e1
  rw [he]
  refine ⟨by simp only; omega, by simp only; omega, by simp only; omega, by simp only; omega, ?_, ?_, ?_⟩
  · intro m hm
    obtain ⟨a, b, d, e⟩ := hc.good m (List.mem_filter.1 hm).1
    exact ⟨a, b, d, by simp only; omega⟩
  · exact hc.nodup.sublist (List.Sublist.map _ List.filter_sublist)
  · by_cases hd : c.drain = n
    · simp [hd]
    · simp only [if_neg hd]
      rcases hc.drain_ with h | h
      · exact .inl h
      · obtain ⟨m, hm, hmd⟩ := List.mem_map.1 h
        exact .inr (List.mem_map.2 ⟨m, List.mem_filter.2 ⟨hm, by simp [hmd, hd]⟩, hmd⟩)
theorem drain_ok {c : Chn} {n : Int} (h : (drainC c n).2 = 0) : leavesC c n = 0 ∧ c.drain < 0 ∧ (drainC c n).1 = ⟨c.epoch + 1, c.mem, n⟩ := by
  unfold drainC at h ⊢
  split at h
  · rename_i h1; exact absurd h h1
  · split at h
    · cases h
    · rename_i h1 h2
      rw [if_neg h1, if_neg h2]
      exact ⟨by simpa using h1, by omega, rfl⟩
theorem drain_okC {c : Chn} {n : Int} (h : (drainC c n).2 = 0) : okC (drainC c n).1 := by
  obtain ⟨hl, _, he⟩ := drain_ok h
  obtain ⟨hc, h1, h2, h3⟩ := leaves_ok hl
  have := hc.e1
  rw [he]
  exact ⟨by simp only; omega, by simp only; omega, hc.l1, hc.l2, fun m hm => by
    obtain ⟨a, b, d, e⟩ := hc.good m hm
    exact ⟨a, b, d, by simp only; omega⟩, hc.nodup, .inr (atC_mem.1 h2)⟩

/- The bytes -/
def encM (m : Int × Int) : List UInt8 := encI m.1 ++ encI m.2
def encMs (l : List (Int × Int)) : List UInt8 := l.flatMap encM
def encC (c : Chn) : List UInt8 := encI c.epoch ++ (encI c.mem.length ++ (encMs c.mem ++ encI c.drain))
def putC (c : Chn) : List UInt8 × Int := if chkC c ≠ 0 then ([], 2) else (encC c, 0)
theorem okC_drain {c : Chn} (h : okC c) : -1 ≤ c.drain ∧ c.drain < 6 := by
  rcases h.drain_ with hd | hd
  · omega
  · obtain ⟨m, hm, hmd⟩ := List.mem_map.1 hd
    have := h.good m hm
    unfold goodM at this; omega
theorem encMs_inj {e f : Int} (he : e ≤ 1099511627776) (hf : f ≤ 1099511627776) : ∀ {a b : List (Int × Int)} {r s : List UInt8}, a.length = b.length → (∀ m ∈ a, goodM e m) → (∀ m ∈ b, goodM f m) → encMs a ++ r = encMs b ++ s → a = b ∧ r = s
  | [], [], _, _, _, _, _, h => ⟨rfl, h⟩
  | x :: a, y :: b, r, s, hl, ha, hb, h => by
    obtain ⟨x1, x2, x3, x4⟩ := ha x List.mem_cons_self
    obtain ⟨y1, y2, y3, y4⟩ := hb y List.mem_cons_self
    simp only [encMs, List.flatMap_cons, encM, List.append_assoc] at h
    obtain ⟨h1, h⟩ := encI_inj (by omega) (by omega) (by omega) (by omega) h
    obtain ⟨h2, h⟩ := encI_inj (by omega) (by omega) (by omega) (by omega) h
    obtain ⟨h3, h⟩ := encMs_inj he hf (by simpa using hl) (fun m hm => ha m (List.mem_cons_of_mem _ hm)) (fun m hm => hb m (List.mem_cons_of_mem _ hm)) h
    exact ⟨by rw [Prod.ext h1 h2, h3], h⟩
  | [], _ :: _, _, _, hl, _, _, _ => by simp at hl
  | _ :: _, [], _, _, hl, _, _, _ => by simp at hl
theorem encC_inj {a b : Chn} {r s : List UInt8} (ha : okC a) (hb : okC b) (h : encC a ++ r = encC b ++ s) : a = b ∧ r = s := by
  obtain ⟨ea, ma, da⟩ := a
  obtain ⟨eb, mb, db⟩ := b
  have h1 := okC_drain ha
  have h2 := okC_drain hb
  obtain ⟨a1, a2, a3, a4, a5, _, _⟩ := ha
  obtain ⟨b1, b2, b3, b4, b5, _, _⟩ := hb
  simp only at *
  simp only [encC, List.append_assoc] at h
  obtain ⟨e1, g1⟩ := encI_inj (by omega) (by omega) (by omega) (by omega) h
  obtain ⟨e2, g2⟩ := encI_inj (by omega) (by omega) (by omega) (by omega) g1
  obtain ⟨e3, g3⟩ := encMs_inj (e := ea) (f := eb) (by omega) (by omega) (by omega) a5 b5 g2
  obtain ⟨e4, g4⟩ := encI_inj (by omega) (by omega) (by omega) (by omega) g3
  exact ⟨by rw [e1, e3, e4], g4⟩
theorem encMs_len : ∀ l : List (Int × Int), (encMs l).length ≤ 18 * l.length
  | [] => by simp [encMs]
  | m :: r => by
    have := encMs_len r
    have h1 := encI_len m.1
    have h2 := encI_len m.2
    simp only [encMs, List.flatMap_cons, encM, List.length_append, List.length_cons] at this ⊢
    omega
theorem encC_len {c : Chn} (h : c.mem.length ≤ 6) : (encC c).length ≤ 135 := by
  have h0 := encMs_len c.mem
  have h1 := encI_len c.epoch
  have h2 := encI_len c.mem.length
  have h3 := encI_len c.drain
  simp only [encC, List.length_append]
  omega
theorem encC_pos {c : Chn} (h : okC c) : 1 ≤ (encC c).length := by
  have := h.e1
  have := h.e2
  have h1 := encI_pos (n := c.epoch) (by omega) (by omega)
  simp only [encC, List.length_append]
  omega
theorem encMs_append (a b : List (Int × Int)) : encMs (a ++ b) = encMs a ++ encMs b := by simp [encMs]
theorem encMs_cons (m : Int × Int) (r : List (Int × Int)) : encMs (m :: r) = encI m.1 ++ (encI m.2 ++ encMs r) := by simp [encMs, encM]
theorem encMs_take {l : List (Int × Int)} {j : Nat} (h : j < l.length) : encMs (l.take (j + 1)) = encMs (l.take j) ++ (encI l[j].1 ++ encI l[j].2) := by
  rw [List.take_succ_eq_append_getElem h, encMs_append, encMs_cons]; simp [encMs]
theorem encMs_drop {l : List (Int × Int)} {j : Nat} (h : j < l.length) : encMs (l.drop j) = encI l[j].1 ++ (encI l[j].2 ++ encMs (l.drop (j + 1))) := by
  rw [List.drop_eq_getElem_cons h, encMs_cons]
/- Numbers one behind the other -/
def flatI (l : List Int) : List UInt8 := l.flatMap encI
def inI (l : List Int) : Prop := ∀ n ∈ l, -1 ≤ n ∧ n ≤ 1099511627776
theorem flatI_cons (n : Int) (r : List Int) : flatI (n :: r) = encI n ++ flatI r := by simp [flatI]
theorem flatI_append (a b : List Int) : flatI (a ++ b) = flatI a ++ flatI b := by simp [flatI]
theorem flatI_drop {l : List Int} {j : Nat} (h : j < l.length) : flatI (l.drop j) = encI l[j] ++ flatI (l.drop (j + 1)) := by
  rw [List.drop_eq_getElem_cons h, flatI_cons]
theorem flatI_nil {l : List Int} (h : inI l) (he : flatI l = []) : l = [] := by
  match l with
  | [] => rfl
  | n :: r =>
    have hn := h n List.mem_cons_self
    have := encI_pos hn.1 hn.2
    rw [flatI_cons] at he
    have := congrArg List.length he
    rw [List.length_append, List.length_nil] at this; omega
def pairsOf (l : List (Int × Int)) : List Int := l.flatMap fun m => [m.1, m.2]
theorem pairs_len (l : List (Int × Int)) : (pairsOf l).length = 2 * l.length := by
  induction l with
  | nil => rfl
  | cons m r ih =>
    unfold pairsOf at ih ⊢
    rw [List.flatMap_cons, List.length_append, ih]; simp; omega
theorem pairs_get : ∀ {l : List (Int × Int)} {j : Nat} (h : j < l.length), (pairsOf l)[2 * j]? = some l[j].1 ∧ (pairsOf l)[2 * j + 1]? = some l[j].2
  | m :: r, 0, _ => by simp [pairsOf]
  | m :: r, j + 1, h => by
    have := pairs_get (l := r) (j := j) (by simpa using h)
    unfold pairsOf at this ⊢
    rw [List.flatMap_cons, show 2 * (j + 1) = 2 * j + 2 by omega, show 2 * j + 2 + 1 = (2 * j + 1) + 2 by omega]
    exact ⟨by rw [List.getElem?_append_right (by simp)]; simpa using this.1, by rw [List.getElem?_append_right (by simp)]; simpa using this.2⟩
def numsC (c : Chn) : List Int := c.epoch :: (c.mem.length : Int) :: (pairsOf c.mem ++ [c.drain])
theorem flat_pairs (l : List (Int × Int)) : flatI (pairsOf l) = encMs l := by
  induction l with
  | nil => rfl
  | cons m r ih => rw [encMs_cons, ← ih]; simp [pairsOf, flatI]
theorem flat_numsC (c : Chn) : flatI (numsC c) = encC c := by
  unfold numsC encC
  rw [flatI_cons, flatI_cons, flatI_append, flat_pairs]
  simp [flatI]
theorem numsC_in {c : Chn} (h : okC c) : inI (numsC c) := by
  have h1 := h.e1
  have h2 := h.e2
  have h3 := h.l2
  have h4 := okC_drain h
  intro n hn
  simp only [numsC, List.mem_cons, List.mem_append, List.not_mem_nil, or_false] at hn
  rcases hn with rfl | rfl | hn | rfl
  · omega
  · omega
  · obtain ⟨m, hm, hx⟩ := List.mem_flatMap.1 hn
    obtain ⟨m1, m2, m3, m4⟩ := h.good m hm
    simp at hx
    rcases hx with rfl | rfl <;> omega
  · omega
theorem numsC_len (c : Chn) : (numsC c).length = 2 * c.mem.length + 3 := by
  simp [numsC, pairs_len]
theorem numsC_get {c : Chn} {j : Nat} (h : j < c.mem.length) : (numsC c)[2 + 2 * j]? = some c.mem[j].1 ∧ (numsC c)[2 + 2 * j + 1]? = some c.mem[j].2 := by
  have := pairs_get h
  have hl := pairs_len c.mem
  unfold numsC
  rw [show 2 + 2 * j = 2 * j + 1 + 1 by omega, show 2 * j + 1 + 1 + 1 = (2 * j + 1) + 1 + 1 by omega]
  simp only [List.getElem?_cons_succ]
  exact ⟨by rw [List.getElem?_append_left (by omega)]; exact this.1, by rw [List.getElem?_append_left (by omega)]; exact this.2⟩
theorem numsC_last (c : Chn) : (numsC c)[2 * c.mem.length + 2]? = some c.drain := by
  have hl := pairs_len c.mem
  unfold numsC
  simp only [List.getElem?_cons_succ]
  rw [List.getElem?_append_right (by omega), hl]; simp
/-- the chain that bytes are -/
def IsC (s : List UInt8) (x : Chn × Int) : Prop := (x.2 = 0 ∧ okC x.1 ∧ s = encC x.1) ∨ (x = (.none, 10) ∧ ∀ c, okC c → s ≠ encC c)
theorem IsC.unique {s : List UInt8} {x y : Chn × Int} (hx : IsC s x) (hy : IsC s y) : x = y := by
  rcases hx with ⟨h1, h2, h3⟩ | ⟨h1, h2⟩
  · rcases hy with ⟨g1, g2, g3⟩ | ⟨g1, g2⟩
    · have : encC x.1 ++ [] = encC y.1 ++ [] := by rw [← h3, ← g3]
      exact Prod.ext (encC_inj h2 g2 this).1 (h1.trans g1.symm)
    · exact absurd h3 (g2 _ h2)
  · rcases hy with ⟨g1, g2, g3⟩ | ⟨g1, g2⟩
    · exact absurd g3 (h2 _ g2)
    · rw [h1, g1]
theorem IsC.put {c : Chn} (h : okC c) {x : Chn × Int} (hx : IsC (encC c) x) : x = (c, 0) := hx.unique (.inl ⟨rfl, h, rfl⟩)
theorem IsC.cut {c : Chn} (h : okC c) {i : Nat} (hi : i < (encC c).length) {x : Chn × Int} (hx : IsC ((encC c).take i) x) : x = (.none, 10) := by
  rcases hx with ⟨h1, h2, h3⟩ | ⟨h1, _⟩
  · exfalso
    have h4 : encC c ++ [] = encC x.1 ++ (encC c).drop i := by rw [← h3, List.take_append_drop, List.append_nil]
    have := congrArg List.length (encC_inj h h2 h4).2
    simp at this; omega
  · exact h1
theorem IsC.more {c : Chn} (h : okC c) {y : List UInt8} (hy : y ≠ []) {x : Chn × Int} (hx : IsC (encC c ++ y) x) : x = (.none, 10) := by
  rcases hx with ⟨h1, h2, h3⟩ | ⟨h1, _⟩
  · exact absurd (encC_inj (s := []) h h2 (by rw [List.append_nil]; exact h3)).2 hy
  · exact h1
end Go.Codec
