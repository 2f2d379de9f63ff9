/- Words on memory: blocks known whole, worlds in which only some blocks have turned. No program is named. -/
import Derived.Test.YtljipmhkpnigkaaV4
namespace Go.Vc
open Go.RowKit

def Blk (w : World) (g : Nat) (t : TypeId) (cs : Array Value) : Prop := w.heap[g]? = some (.cells cs t (0, 0))
/-- Only blocks of S, and new ones, have turned. -/
structure Kp (S : Nat → Prop) (w w' : World) : Prop where
  os : w'.os = w.os
  tape : w'.tape = w.tape
  output : w'.output = w.output
  size : w.heap.size ≤ w'.heap.size
  block : ∀ k, k < w.heap.size → ¬ S k → w'.heap[k]? = w.heap[k]?
def No : Nat → Prop := fun _ => False
def One (b : Nat) : Nat → Prop := fun k => k = b
def Two (b c : Nat) : Nat → Prop := fun k => k = b ∨ k = c

section
variable {w w' w'' : World} {g b : Nat} {t : TypeId} {cs : Array Value} {S S' : Nat → Prop}
theorem Blk.lt (h : Blk w g t cs) : g < w.heap.size := by
  rcases Nat.lt_or_ge g w.heap.size with hlt | hge
  · exact hlt
  · unfold Blk at h; rw [Array.getElem?_eq_none hge] at h; cases h
theorem Blk.cell (h : Blk w g t cs) (i : Nat) : w.cell? ⟨g, i, none⟩ = cs[i]? := cell_of_row w g i cs t (0, 0) h
theorem Blk.at_ (h : Blk w g t cs) {i : Nat} {v : Value} (hv : cs[i]? = some v) : w.cell? ⟨g, i, none⟩ = some v := (h.cell i).trans hv
theorem Blk.frozen (h : Blk w g t cs) (i : Nat) : w.frozen? ⟨g, i, none⟩ = false := by
  unfold Blk at h
  simp [World.frozen?, h]
theorem Blk.wr (h : Blk w g t cs) {i : Nat} {v : Value} (hv : cs[i]? = some v) : Wr w ⟨g, i, none⟩ := ⟨⟨v, h.at_ hv⟩, h.frozen i⟩
theorem Blk.kp (h : Blk w g t cs) (k : Kp S w w') (hs : ¬ S g) : Blk w' g t cs := (k.block g h.lt hs).trans h
theorem Blk.ne_ {g' : Nat} {t' : TypeId} {cs' : Array Value} (h : Blk w g t cs) (h' : Blk w g' t' cs') (hne : t ≠ t') : g ≠ g' := by
  rintro rfl
  unfold Blk at h h'
  rw [h] at h'
  injection h' with h'
  injection h' with _ ht
  exact hne ht
theorem Blk.new (w : World) (t : TypeId) (cs : Array Value) : Blk (w.alloc (.cells cs t)) w.heap.size t cs := heap_alloc_new w _
theorem Blk.set_ (h : Blk w g t cs) (i : Nat) (u : Value) : Blk (w.setCell ⟨g, i, none⟩ u) g t (cs.setIfInBounds i u) := by
  unfold Blk at h ⊢
  simp [World.setCell, Array.getElem?_modify, h]

theorem Kp.refl (S : Nat → Prop) (w : World) : Kp S w w := ⟨rfl, rfl, rfl, Nat.le_refl _, fun _ _ _ => rfl⟩
theorem Kp.trans (h : Kp S w w') (k : Kp S w' w'') : Kp S w w'' :=
  ⟨k.os.trans h.os, k.tape.trans h.tape, k.output.trans h.output, Nat.le_trans h.size k.size, fun i hi hn => (k.block i (Nat.lt_of_lt_of_le hi h.size) hn).trans (h.block i hi hn)⟩
/-- what the second step may turn was new, or of S -/
theorem Kp.step (h : Kp S w w') (k : Kp S' w' w'') (hs : ∀ i, S' i → S i ∨ w.heap.size ≤ i) : Kp S w w'' :=
  ⟨k.os.trans h.os, k.tape.trans h.tape, k.output.trans h.output, Nat.le_trans h.size k.size, fun i hi hn =>
    (k.block i (Nat.lt_of_lt_of_le hi h.size) (fun h' => (hs i h').elim hn (fun h'' => by omega))).trans (h.block i hi hn)⟩
theorem Kp.mono (h : Kp S w w') (hs : ∀ i, S i → S' i) : Kp S' w w' := ⟨h.os, h.tape, h.output, h.size, fun i hi hn => h.block i hi fun h' => hn (hs i h')⟩
theorem Kp.no (h : Kp No w w') : Kp S w w' := h.mono fun _ h => h.elim
theorem Kp.alloc (o : Obj) : Kp S w (w.alloc o) := ⟨rfl, rfl, rfl, by simp, fun i hi _ => Below.heap_alloc w o i hi⟩
theorem Kp.set_ {a : Addr} (u : Value) (hs : S a.block) : Kp S w (w.setCell a u) :=
  ⟨rfl, rfl, rfl, by simp [World.setCell], fun i _ hn => Below.heap_setCell w a u i (by rintro rfl; exact hn hs)⟩
theorem Kp.drewN (n : Nat) : Kp S w (w.drewN n) := ⟨rfl, rfl, rfl, Nat.le_refl _, fun _ _ _ => rfl⟩
theorem Kp.below (h : Kp No w w') : Below w.heap.size w w' := ⟨h.os, h.tape, h.output, h.size, fun i hi => h.block i hi (fun h => h)⟩
theorem Kp.cell (h : Kp S w w') {a : Addr} {v : Value} (hc : w.cell? a = some v) (hs : ¬ S a.block) : w'.cell? a = some v := by
  have hlt : a.block < w.heap.size := by
    rcases Nat.lt_or_ge a.block w.heap.size with h' | h'
    · exact h'
    · simp [World.cell?, Array.getElem?_eq_none h'] at hc
  rw [← hc]
  unfold World.cell?
  rw [h.block _ hlt hs]

theorem Row.kp (h : Kp S w w') {a : Addr} (hs : ¬ S a.block) : ∀ {l : List Value} {i : Nat}, Row w a i l → Row w' a i l
  | [], _, _ => trivial
  | _ :: _, i, hr => ⟨h.cell hr.1 (by have : (a.add i).block = a.block := by unfold Addr.add; split <;> rfl
                                      rw [this]; exact hs), Row.kp h hs hr.2⟩
theorem not_no (i : Nat) : ¬ No i := fun h => h
theorem step_new {B b : Nat} {S : Nat → Prop} (h : B ≤ b) : ∀ i, One b i → S i ∨ B ≤ i := by rintro i rfl; exact .inr h
theorem Kp.new1 {w w' w'' : World} {b : Nat} (h : Kp No w w') (k : Kp (One b) w' w'') (hb : w.heap.size ≤ b) : Kp No w w'' := h.step k (step_new hb)

/-- a store into a block that is known -/
theorem LetW.blk {cs' : Array Value} {i : Nat} {u : Value} {F : World → Prop} (h : Blk w g t cs) (e : cs.setIfInBounds i u = cs') (hF : ∀ w', Blk w' g t cs' → Kp (One g) w w' → F w') : LetW (w.setCell ⟨g, i, none⟩ u) F :=
  .of (hF _ (e ▸ h.set_ i u) (Kp.set_ u rfl))
/-- a new block -/
theorem LetA.blk {F : Nat → World → Prop} (hF : ∀ b w', b = w.heap.size → Blk w' b t cs → Kp No w w' → F b w') : LetA (.cells cs t) w F := .of (hF _ _ rfl (Blk.new w t cs) (Kp.alloc _))

theorem Row.blk (h : Blk w g t cs) : ∀ {l : List Value} {o i : Nat}, (∀ j v, l[j]? = some v → cs[o + (i + j)]? = some v) → Row w ⟨g, o, none⟩ i l
  | [], _, _, _ => trivial
  | v :: r, o, i, hl => by
    refine ⟨?_, Row.blk h fun j u hu => ?_⟩
    · have h0 := hl 0 v rfl
      have e : (⟨g, o, none⟩ : Addr).add i = ⟨g, o + i, none⟩ := by
        unfold Addr.add; split
        · rename_i hi; subst hi; rfl
        · rfl
      rw [e]; exact h.at_ (by simpa using h0)
    · have := hl (j + 1) u (by simpa using hu)
      rw [show o + (i + 1 + j) = o + (i + (j + 1)) by omega]; exact this
theorem Row.whole {l : List Value} (h : Blk w g t ⟨l⟩) : Row w ⟨g, 0, none⟩ 0 l := Row.blk h fun j v hv => by simpa using hv
theorem WrRow.blk (h : Blk w g t cs) : ∀ {l : List Value} {o i : Nat}, (∀ v ∈ l, notAgg v = true) → o + (i + l.length) ≤ cs.size → WrRow w ⟨g, o, none⟩ i l
  | [], _, _, _, _ => trivial
  | v :: r, o, i, hn, hl => by
    refine ⟨NotAgg.mk (hn v List.mem_cons_self) ?_, WrRow.blk h (fun u hu => hn u (List.mem_cons_of_mem _ hu)) (by simp at hl; omega)⟩
    have e : (⟨g, o, none⟩ : Addr).add i = ⟨g, o + i, none⟩ := by
      unfold Addr.add; split
      · rename_i hi; subst hi; rfl
      · rfl
    rw [e]
    have hlt : o + i < cs.size := by simp at hl; omega
    exact h.wr (Array.getElem?_eq_getElem hlt)
theorem setRow_kp {a : Addr} (hs : S a.block) : ∀ (l : List Value) (i : Nat) (w : World), Kp S w (setRow w a i l)
  | [], _, w => Kp.refl _ w
  | v :: r, i, w => (Kp.set_ v (by unfold Addr.add; split <;> exact hs)).trans (setRow_kp hs r (i + 1) _)
def setsFrom (cs : Array Value) (o : Nat) : List Value → Array Value
  | [] => cs
  | v :: r => setsFrom (cs.setIfInBounds o v) (o + 1) r
theorem setRow_blk : ∀ (l : List Value) (o i : Nat) (w : World) (cs : Array Value), Blk w g t cs → Blk (setRow w ⟨g, o, none⟩ i l) g t (setsFrom cs (o + i) l)
  | [], _, _, _, _, h => h
  | v :: r, o, i, w, cs, h => by
    have e : (⟨g, o, none⟩ : Addr).add i = ⟨g, o + i, none⟩ := by
      unfold Addr.add; split
      · rename_i hi; subst hi; rfl
      · rfl
    simp only [setRow, setsFrom, e]
    exact setRow_blk r o (i + 1) _ _ (h.set_ (o + i) v)
/-- a row stored into a block that is known -/
theorem LetW.row {cs' : Array Value} {o : Nat} {l : List Value} {F : World → Prop} (h : Blk w g t cs) (e : setsFrom cs (o + 0) l = cs') (hF : ∀ w', Blk w' g t cs' → Kp (One g) w w' → F w') : LetW (setRow w ⟨g, o, none⟩ 0 l) F :=
  .of <| hF _ (e ▸ setRow_blk l o 0 w cs h) (setRow_kp (S := One g) (a := ⟨g, o, none⟩) rfl l 0 w)
end

theorem wrap_id {n : Int} (h1 : -9223372036854775808 ≤ n) (h2 : n ≤ 9223372036854775807) : IntKind.i64.wrap n = n := by
  rw [IntKind.wrap_i64]; omega
theorem LetI.id {n : Int} {F : Int → Prop} (h1 : -9223372036854775808 ≤ n) (h2 : n ≤ 9223372036854775807) (h : F n) : LetI (IntKind.i64.wrap n) F := LetI.wrap (wrap_id h1 h2) h
theorem LetI.eq {n m : Int} {F : Int → Prop} (e : n = m) (h : F m) : LetI n F := by subst e; exact .of h
/-- a quotient of what is not below 0 -/
theorem LetI.quo {a b : Int} {F : Int → Prop} (ha : 0 ≤ a) (hb : 1 ≤ b) (ha' : a ≤ 9223372036854775807) (h : F (a / b)) : LetI (IntKind.i64.wrap (a.tdiv b)) F := by
  have h1 : a.tdiv b = a / b := Int.tdiv_eq_ediv_of_nonneg ha
  have h2 : 0 ≤ a / b := Int.ediv_nonneg ha (by omega)
  have h3 : a / b ≤ a := Int.ediv_le_self _ ha
  rw [h1]
  exact LetI.id (by omega) (by omega) h
theorem LetI.rem {a b : Int} {F : Int → Prop} (ha : 0 ≤ a) (h : F (a % b)) : LetI (a.tmod b) F := by
  have h1 : a.tmod b = a % b := Int.tmod_eq_emod_of_nonneg ha
  rw [h1]; exact .of h
end Go.Vc
