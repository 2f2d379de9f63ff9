/- Elements that lie one behind the other, each of so many cells. No program is named. -/
import Derived.Test.YtljipmhkpnigkaaV14
namespace Go.Vc
open Go.RowKit

def ElAt {α : Type} (enc : α → List Value) (sz : Nat) (w : World) (p : Option Addr) (l : List α) : Prop := ∀ (i : Nat) (h : i < l.length), ∃ a, p = some a ∧ Row w (a.add (i * sz)) 0 (enc l[i])
def cellsOf {α : Type} (enc : α → List Value) (l : List α) : List Value := l.flatMap enc
section
variable {α : Type} {enc : α → List Value} {sz : Nat} {w w' : World} {p : Option Addr} {l : List α} {S : Nat → Prop}
theorem cellsOf_nil : cellsOf enc [] = [] := rfl
theorem cellsOf_append (a b : List α) : cellsOf enc (a ++ b) = cellsOf enc a ++ cellsOf enc b := by simp [cellsOf]
theorem cellsOf_one (x : α) : cellsOf enc [x] = enc x := by simp [cellsOf]
theorem cellsOf_len (hsz : ∀ x, (enc x).length = sz) : ∀ l : List α, (cellsOf enc l).length = l.length * sz
  | [] => by simp [cellsOf]
  | x :: r => by
    have := cellsOf_len hsz r
    unfold cellsOf at this ⊢
    rw [List.flatMap_cons, List.length_append, hsz, this, List.length_cons, Nat.add_mul, Nat.one_mul, Nat.add_comm]
/-- a cell is one of an element's -/
theorem cellsOf_at (hsz : ∀ x, (enc x).length = sz) : ∀ {l : List α} {j : Nat} {u : Value}, (cellsOf enc l)[j]? = some u → ∃ (i : Nat) (h : i < l.length) (r : Nat), j = i * sz + r ∧ (enc l[i])[r]? = some u
  | [], j, u, h => by simp [cellsOf] at h
  | x :: t, j, u, h => by
    rw [show cellsOf enc (x :: t) = enc x ++ cellsOf enc t by simp [cellsOf]] at h
    rcases Nat.lt_or_ge j (enc x).length with hj | hj
    · rw [List.getElem?_append_left hj] at h
      exact ⟨0, by simp, j, by omega, h⟩
    · rw [List.getElem?_append_right hj, hsz] at h
      obtain ⟨i, hi, r, he, hr⟩ := cellsOf_at hsz h
      rw [hsz] at hj
      exact ⟨i + 1, by simpa using hi, r, by rw [Nat.add_mul, Nat.one_mul]; omega, by simpa using hr⟩
theorem cellsOf_get (hsz : ∀ x, (enc x).length = sz) {l : List α} {i r : Nat} {u : Value} (hi : i < l.length) (hr : (enc l[i])[r]? = some u) : (cellsOf enc l)[i * sz + r]? = some u := by
  have hr' : r < sz := by
    rw [← hsz l[i]]
    rcases Nat.lt_or_ge r (enc l[i]).length with h' | h'
    · exact h'
    · simp [List.getElem?_eq_none h'] at hr
  have hs : l = l.take i ++ l[i] :: l.drop (i + 1) := by rw [List.getElem_cons_drop, List.take_append_drop]
  have hv : cellsOf enc l = cellsOf enc (l.take i) ++ (enc l[i] ++ cellsOf enc (l.drop (i + 1))) := by
    conv => lhs; rw [hs]
    rw [cellsOf_append]; congr 1
  rw [hv, List.getElem?_append_right (by rw [cellsOf_len hsz, List.length_take]; have : min i l.length = i := by omega
                                         rw [this]; omega)]
  rw [cellsOf_len hsz, List.length_take, show min i l.length = i by omega, show i * sz + r - i * sz = r by omega, List.getElem?_append_left (by rw [hsz]; exact hr')]
  exact hr
theorem add_block (a : Addr) (n : Nat) : (a.add n).block = a.block := by unfold Addr.add; split <;> rfl
theorem ElAt.kp (h : ElAt enc sz w p l) (k : Kp S w w') (hs : ∀ a, p = some a → ¬ S a.block) : ElAt enc sz w' p l := fun i hi => by
  obtain ⟨a, ha, hr⟩ := h i hi
  exact ⟨a, ha, Row.kp k (by rw [add_block]; exact hs a ha) hr⟩
theorem ElAt.no (h : ElAt enc sz w p l) (k : Kp No w w') : ElAt enc sz w' p l := h.kp k (fun _ _ h => h)
theorem ElAt.nil (w : World) (p : Option Addr) : ElAt enc sz w p [] := fun i h => by simp at h
theorem ElAt.some_ (h : ElAt enc sz w p l) (hl : 0 < l.length) : ∃ a, p = some a := by obtain ⟨a, ha, _⟩ := h 0 hl; exact ⟨a, ha⟩
theorem Row.get {a : Addr} : ∀ {l : List Value} {i j : Nat} {v : Value}, Row w a i l → l[j]? = some v → w.cell? (a.add (i + j)) = some v
  | [], _, _, _, _, h => by simp at h
  | x :: r, i, 0, v, h, hv => by
    cases hv; exact h.1
  | x :: r, i, j + 1, v, h, hv => by
    have := Row.get (j := j) h.2 (by simpa using hv)
    rwa [show i + 1 + j = i + (j + 1) by omega] at this
theorem Row.of_cells {a : Addr} : ∀ {l : List Value} {i : Nat}, (∀ j v, l[j]? = some v → w.cell? (a.add (i + j)) = some v) → Row w a i l
  | [], _, _ => trivial
  | x :: r, i, h => ⟨by simpa using h 0 x rfl, Row.of_cells fun j v hv => by
      have := h (j + 1) v (by simpa using hv)
      rwa [show i + (j + 1) = i + 1 + j by omega] at this⟩
theorem ElAt.cells (h : ElAt enc sz w p l) (hsz : ∀ x, (enc x).length = sz) {a : Addr} (ha : p = some a) {j : Nat} {u : Value} (hj : (cellsOf enc l)[j]? = some u) : w.cell? (a.add j) = some u := by
  obtain ⟨i, hi, r, rfl, hr⟩ := cellsOf_at hsz hj
  obtain ⟨a', ha', hrow⟩ := h i hi
  rw [ha] at ha'
  cases ha'
  have := Row.get hrow hr
  rwa [Nat.zero_add, Addr.add_add] at this
theorem ElAt.of_cells (hsz : ∀ x, (enc x).length = sz) {a : Addr} (ha : p = some a) (h : ∀ j u, (cellsOf enc l)[j]? = some u → w.cell? (a.add j) = some u) : ElAt enc sz w p l := fun i hi =>
  ⟨a, ha, Row.of_cells fun j v hv => by
    rw [Nat.zero_add, Addr.add_add]
    exact h _ _ (cellsOf_get hsz hi hv)⟩
theorem add_head (g j : Nat) : (⟨g, 0, none⟩ : Addr).add j = ⟨g, j, none⟩ := by simp [Addr.add]; exact fun h => h.symm
theorem ElAt.of_owns {B e n c : Nat} (hsz : ∀ x, (enc x).length = sz) (h : w.ownsRow B e sz (.slice p n c) n (cellsOf enc l)) (hn : n = l.length) : ElAt enc sz w p l := by
  obtain ⟨p', c', hp, hf⟩ := owns_form h
  cases hp
  rcases Nat.eq_zero_or_pos n with h0 | h0
  · have : l = [] := List.eq_nil_of_length_eq_zero (by omega)
    subst this; exact ElAt.nil _ _
  · obtain ⟨g, rfl, _, _, hc⟩ := hf h0
    exact ElAt.of_cells hsz rfl fun j u hu => by rw [add_head]; exact hc j u hu
theorem ElAt.take (h : ElAt enc sz w p l) (m : Nat) : ElAt enc sz w p (l.take m) := fun i hi => by
  rw [List.length_take] at hi
  obtain ⟨a, ha, hr⟩ := h i (by omega)
  exact ⟨a, ha, by simpa using hr⟩
theorem ElAt.drop (h : ElAt enc sz w p l) (m : Nat) : ElAt enc sz w (p.map (·.add (m * sz))) (l.drop m) := fun i hi => by
  rw [List.length_drop] at hi
  obtain ⟨a, ha, hr⟩ := h (m + i) (by omega)
  refine ⟨a.add (m * sz), by rw [ha]; rfl, ?_⟩
  rw [Addr.add_add, ← Nat.add_mul]
  simpa using hr
theorem owns_base {B B' e size n : Nat} {v : Value} {xs : List Value} (h : w.ownsRow B e size v n xs) (hB : B' ≤ B) : w.ownsRow B' e size v n xs := by
  refine ⟨h.1, ?_⟩
  rcases h.2 with h1 | ⟨g, cap, cur, hv, hb, r⟩
  · exact .inl h1
  · exact .inr ⟨g, cap, cur, hv, Nat.le_trans hB hb, r⟩
/-- a new block, whole, as a slice of the call's own -/
theorem owns_new {g B e n : Nat} {xs : List Value} (h : Blk w g e xs.toArray) (hB : B ≤ g) (hn : n ≤ maxLen) (hl : xs.length = n * sz) : w.ownsRow B e sz (.slice (some ⟨g, 0, none⟩) n n) n xs :=
  ⟨hl, .inr ⟨g, n, xs.toArray, rfl, hB, h, Nat.le_refl _, hn, by simpa using hl, by rw [← hl]; simp⟩⟩
end

section
variable {P : Program} {S : Nat → Prop} {w0 w : World} {L : List Atom} {α : Type} {enc : α → List Value} {sz : Nat}
/-- append of what lies there to a slice of the call's own -/
theorem St.appendEl (h : St S w0 w L) (k : Nat) {t e : TypeId} {i : TypeInfo} {z v : Value} {bytes n m c : Nat} {p : Option Addr} {xs l : List α} (ht : P.underlying t = some (.slice e)) (hi : P.info? e = some i) (hz : i.zero = some z)
    (hsize : i.size = sz) (hby : i.bytes = bytes) (hzs : z.cells.size = sz) (hs0 : 0 < sz) (hsz : ∀ x, (enc x).length = sz) (hna : ∀ x, ∀ u ∈ enc x, notAgg u = true) (hA : L[k]? = some (.row w0.heap.size e sz v n (cellsOf enc xs)))
    (hE : ElAt enc sz w p l) (hp : p.isSome = true) (hm : m = l.length) (h63 : n + m ≤ maxLen) (hbytes : (n + m) * bytes ≤ 140737488355328) {ty : TypeId} {K : Value → World → Prop}
    (hK : ∀ p' c' w', St S w0 w' (L.set k (.row w0.heap.size e sz (.slice p' (n + m) c') (n + m) (cellsOf enc (xs ++ l)))) → K (.slice p' (n + m) c') w') :
    RunsV P (Builtin.append_ #[t, t] ty #[v, .slice p m c]) w K := by
  obtain ⟨a, rfl⟩ := Option.isSome_iff_exists.1 hp
  refine St.append h k ht hi hz hsize hby hzs hs0 hA (news := cellsOf enc l) (by rw [cellsOf_len hsz, hm]) (fun j u hu => hE.cells hsz rfl hu) (fun u hu => ?_) h63 hbytes ?_
  · unfold cellsOf at hu
    obtain ⟨x, _, hx⟩ := List.mem_flatMap.1 hu
    exact hna x u hx
  · intro p' c' w' st
    rw [← cellsOf_append] at st
    exact hK p' c' w' st
/-- a copy: append of what lies there to nothing -/
theorem St.copyEl (h : St S w0 w L) {t e : TypeId} {i : TypeInfo} {z : Value} {bytes m c : Nat} {p : Option Addr} {l : List α} (ht : P.underlying t = some (.slice e)) (hi : P.info? e = some i) (hz : i.zero = some z)
    (hsize : i.size = sz) (hby : i.bytes = bytes) (hzs : z.cells.size = sz) (hs0 : 0 < sz) (hsz : ∀ x, (enc x).length = sz) (hna : ∀ x, ∀ u ∈ enc x, notAgg u = true)
    (hE : ElAt enc sz w p l) (hm : m = l.length) (h63 : m ≤ maxLen) (hbytes : m * bytes ≤ 140737488355328) {ty : TypeId} {K : Value → World → Prop}
    (hK : ∀ p' c' w', St S w0 w' (.row w0.heap.size e sz (.slice p' m c') m (cellsOf enc l) :: L) → K (.slice p' m c') w') :
    RunsV P (Builtin.append_ #[t, t] ty #[.slice none 0 0, .slice p m c]) w K := by
  rcases Nat.eq_zero_or_pos m with h0 | h0
  · subst h0
    have hl : l = [] := List.eq_nil_of_length_eq_zero hm.symm
    subst hl
    refine .of fun k => ⟨.slice none 0 0, 0, w.drewN k, ?_, hK none 0 _ ((h.nil e sz).keep (Kp.drewN k))⟩
    cases p <;> simp [Builtin.append_, run_underlying ht, sizeOf, typeInfo, hi, Builtin.lenOf, Builtin.firstCells, loadCells, loadCellsFrom] <;> rfl
  · obtain ⟨a, rfl⟩ := hE.some_ (by omega)
    refine St.appendEl (h.nil e sz) 0 ht hi hz hsize hby hzs hs0 hsz hna (xs := []) rfl hE rfl hm (by omega) (by rw [Nat.zero_add]; exact hbytes) ?_
    intro p' c' w' st
    rw [Nat.zero_add, List.nil_append] at *
    exact hK p' c' w' st
/-- append of one element, that was laid as a block of its own -/
theorem St.append1 (h : St S w0 w L) (k j : Nat) {t e : TypeId} {i : TypeInfo} {z v : Value} {bytes n b : Nat} {xs : List α} {x : α} (ht : P.underlying t = some (.slice e)) (hi : P.info? e = some i) (hz : i.zero = some z)
    (hsize : i.size = sz) (hby : i.bytes = bytes) (hzs : z.cells.size = sz) (hs0 : 0 < sz) (hsz : ∀ x, (enc x).length = sz) (hna : ∀ x, ∀ u ∈ enc x, notAgg u = true) (hA : L[k]? = some (.row w0.heap.size e sz v n (cellsOf enc xs)))
    (hB : L[j]? = some (.blk b e (enc x))) (h63 : n + 1 ≤ maxLen) (hbytes : (n + 1) * bytes ≤ 140737488355328) {ty : TypeId} {K : Value → World → Prop}
    (hK : ∀ p' c' w', St S w0 w' (L.set k (.row w0.heap.size e sz (.slice p' (n + 1) c') (n + 1) (cellsOf enc (xs ++ [x])))) → K (.slice p' (n + 1) c') w') :
    RunsV P (Builtin.append_ #[t, t] ty #[v, .slice (some ⟨b, 0, none⟩) 1 1]) w K := by
  refine St.appendEl h k ht hi hz hsize hby hzs hs0 hsz hna hA (l := [x]) (ElAt.of_cells hsz rfl fun q u hu => ?_) rfl rfl h63 hbytes hK
  rw [add_head, cellsOf_one] at *
  exact Blk.at_ (h.hold j _ hB) (by simpa using hu)
/-- a slice that a call made, as one of the function's own -/
theorem St.pushRow (h : St S w0 w L) {w' : World} {e size n : Nat} {v : Value} {xs : List Value} (hk : Kp No w w') (ho : w'.ownsRow w.heap.size e size v n xs) : St S w0 w' (.row w0.heap.size e size v n xs :: L) :=
  h.push hk (owns_base ho h.kp.size) (fun _ hg => (owns_at ho hg).1)
end
end Go.Vc
