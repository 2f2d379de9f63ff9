/- Calls that know some atoms alone: what the caller knows beside them stays. No program is named. -/
import Derived.Test.YtljipmhkpnigkaaV16
namespace Go.Vc
open Go.RowKit

/-- the blocks of these atoms -/
def feet : List Atom → Nat → Prop
  | [], _ => False
  | A :: r, g => A.foot g ∨ feet r g
theorem feet_mem {g : Nat} : ∀ {L : List Atom}, feet L g ↔ ∃ (k : Nat) (A : Atom), L[k]? = some A ∧ A.foot g
  | [] => ⟨fun h => h.elim, fun ⟨_, _, h, _⟩ => by simp at h⟩
  | A :: r => by
    refine ⟨fun h => ?_, fun ⟨k, B, hk, hg⟩ => ?_⟩
    · rcases h with h | h
      · exact ⟨0, A, rfl, h⟩
      · obtain ⟨k, B, hk, hg⟩ := feet_mem.1 h
        exact ⟨k + 1, B, hk, hg⟩
    · match k, hk with
      | 0, hk => cases hk; exact .inl hg
      | k + 1, hk => exact .inr (feet_mem.2 ⟨k, B, hk, hg⟩)
theorem app_left {α : Type} {a b : List α} {k : Nat} {x : α} (h : a[k]? = some x) : (a ++ b)[k]? = some x := by
  have hk : k < a.length := by
    rcases Nat.lt_or_ge k a.length with h' | h'
    · exact h'
    · simp [List.getElem?_eq_none h'] at h
  rw [List.getElem?_append_left hk]; exact h
theorem app_right {α : Type} {a b : List α} {k : Nat} {x : α} (h : b[k]? = some x) : (a ++ b)[a.length + k]? = some x := by
  rw [List.getElem?_append_right (by omega), Nat.add_sub_cancel_left]; exact h
theorem app_cases {α : Type} {a b : List α} {k : Nat} {x : α} (h : (a ++ b)[k]? = some x) : (k < a.length ∧ a[k]? = some x) ∨ (∃ j, k = a.length + j ∧ b[j]? = some x) := by
  rcases Nat.lt_or_ge k a.length with h' | h'
  · rw [List.getElem?_append_left h'] at h; exact .inl ⟨h', h⟩
  · rw [List.getElem?_append_right h'] at h; exact .inr ⟨k - a.length, by omega, h⟩

section
variable {P : Program} {S : Nat → Prop} {w0 w w' : World} {L L1 L1' L2 : List Atom}
/-- the first atoms, as what a callee knows -/
theorem St.enter (st : St S w0 w (L1 ++ L2)) : St (feet L1) w w L1 :=
  ⟨Kp.refl _ _, fun k A hA => st.hold k A (app_left hA), fun k A hA _ hg => .inl (feet_mem.2 ⟨k, A, hA, hg⟩), fun j k A B hne hA hB => st.disj j k A B hne (app_left hA) (app_left hB)⟩
/-- what the callee left of them, beside all else -/
theorem St.leave (st : St S w0 w (L1 ++ L2)) (st' : St (feet L1) w w' L1') : St S w0 w' (L1' ++ L2) := by
  have hown : ∀ g, feet L1 g → S g ∨ w0.heap.size ≤ g := fun g hg => by
    obtain ⟨k, A, hA, hg⟩ := feet_mem.1 hg
    exact st.own k A (app_left hA) g hg
  have hdis : ∀ (g k : Nat) (B : Atom), L2[k]? = some B → B.foot g → ¬ feet L1 g := fun g k B hB hgB hg => by
    obtain ⟨j, A, hA, hgA⟩ := feet_mem.1 hg
    have hj : j < L1.length := by
      rcases Nat.lt_or_ge j L1.length with h' | h'
      · exact h'
      · simp [List.getElem?_eq_none h'] at hA
    exact st.disj j (L1.length + k) A B (by omega) (app_left hA) (app_right hB) g hgA hgB
  have hmix : ∀ (g j k : Nat) (A B : Atom), L1'[j]? = some A → L2[k]? = some B → A.foot g → ¬ B.foot g := fun g j k A B hA hB hgA hgB => by
    rcases st'.own j A hA g hgA with h | h
    · exact hdis g k B hB hgB h
    · have := st.lt (app_right (a := L1) hB) hgB
      omega
  refine ⟨st.kp.step st'.kp hown, fun k A hA => ?_, fun k A hA g hg => ?_, fun i j A B hne hA hB g hg => ?_⟩
  · rcases app_cases hA with ⟨_, h⟩ | ⟨j, rfl, h⟩
    · exact st'.hold k A h
    · exact A.stable st'.kp (fun g hg => hdis g j A h hg) (st.hold _ A (app_right h))
  · rcases app_cases hA with ⟨_, h⟩ | ⟨j, rfl, h⟩
    · rcases st'.own k A h g hg with h' | h'
      · exact hown g h'
      · exact .inr (Nat.le_trans st.kp.size h')
    · exact st.own _ A (app_right h) g hg
  · rcases app_cases hA with ⟨_, h⟩ | ⟨i', rfl, h⟩
    · rcases app_cases hB with ⟨_, h2⟩ | ⟨j', rfl, h2⟩
      · exact st'.disj i j A B hne h h2 g hg
      · exact hmix g i j' A B h h2 hg
    · rcases app_cases hB with ⟨_, h2⟩ | ⟨j', rfl, h2⟩
      · exact fun hgB => hmix g j i' B A h2 h hgB hg
      · exact st.disj (L1.length + i') (L1.length + j') A B (by omega) (app_right h) (app_right h2) g hg
/-- a call that knows these atoms, and leaves those -/
def Tk (P : Program) (f : FuncId) (args : Array Value) (L : List Atom) (Q : Ending → List Atom → Prop) : Prop := ∀ w, St (feet L) w w L → Ca P f args w fun e w' => ∃ L', Q e L' ∧ St (feet L) w w' L'
theorem Tk.go {f : FuncId} {args : Array Value} {Q : Ending → List Atom → Prop} (h : Tk P f args L1 Q) (st : St S w0 w (L1 ++ L2)) {R : Ending → World → Prop} (hR : ∀ e L' w', Q e L' → St S w0 w' (L' ++ L2) → R e w') : Ca P f args w R :=
  Ca.mono (h w st.enter) fun e w1 ⟨L', hq, st'⟩ => hR e L' w1 hq (st.leave st')
theorem Tk.of_pw {f : FuncId} {args : Array Value} {v : Value} (h : ∀ w, St (feet L) w w L → Pw P f args v w) : Tk P f args L fun e L' => e = .returned v ∧ L' = L :=
  fun w st => Ca.mono (h w st) fun _ _ ⟨he, hk⟩ => ⟨_, ⟨he, rfl⟩, st.keep hk⟩
/-- a callee that knows nothing, and tells of new blocks -/
theorem St.enter0 (w : World) : St (feet []) w w [] := ⟨Kp.refl _ _, by simp, by simp, by simp⟩
theorem St.mono {S' : Nat → Prop} (st : St S w0 w L) (h : ∀ g, S g → S' g) : St S' w0 w L := ⟨st.kp.mono h, st.hold, fun k A hA g hg => (st.own k A hA g hg).imp (h g) id, st.disj⟩
theorem St.no0 (st : St (feet []) w0 w L) : St No w0 w L := st.mono fun _ h => h
theorem St.set_ (st : St S w0 w L) (k : Nat) {b t i : Nat} {cs : List Value} (u : Value) (hA : L[k]? = some (.blk b t cs)) : St S w0 (w.setCell ⟨b, i, none⟩ u) (L.set k (.blk b t (cs.set i u))) :=
  (St.store st k (i := i) (u := u) (F := fun w' => St S w0 w' (L.set k (.blk b t (cs.set i u)))) hA fun _ h => h).out
theorem St.tu {A A' : Atom} {f : FuncId} {args : Array Value} {v : Value} (h : ∀ w, St A.foot w w [A] → Ca P f args w fun e w' => e = .returned v ∧ St A.foot w w' [A']) : Tu P f args A A' v :=
  fun w hA => (h w (St.start1 hA fun _ hg => hg)).mono fun _ _ ⟨he, st⟩ => ⟨he, st.hold 0 _ rfl, st.kp⟩
end
theorem slice0 (p : Option Addr) (c lo s : Nat) (h0 : lo = 0) : (if c = lo then p else p.map (fun x => x.add (lo * s))) = p := by
  subst h0; split
  · rfl
  · exact map_zero _ _
theorem slice_in {p : Option Addr} {c lo s : Nat} (h : lo < c) : (if c = lo then p else p.map (fun x => x.add (lo * s))) = p.map (fun x => x.add (lo * s)) := if_neg (by omega)
theorem ElAt.one {α : Type} {enc : α → List Value} {sz : Nat} {w : World} {p : Option Addr} {l : List α} (h : ElAt enc sz w p l) {j : Nat} (hj : j < l.length) : ElAt enc sz w (p.map (·.add (j * sz))) [l[j]] := by
  have := (h.drop j).take 1
  rw [List.drop_eq_getElem_cons hj] at this
  exact this
/-- the first ones are turned, the others not yet: the next one -/
theorem map_step {α : Type} (f : α → α) {q : List α} {j : Nat} (hj : j < q.length) (h : j < ((q.take j).map f ++ q.drop j).length) :
    ((q.take j).map f ++ q.drop j).set j (f (((q.take j).map f ++ q.drop j)[j]'h)) = (q.take (j + 1)).map f ++ q.drop (j + 1) := by
  have hl : ((q.take j).map f).length = j := by simp; omega
  have hx : ((q.take j).map f ++ q.drop j)[j]'h = q[j] := by
    rw [List.getElem_append_right (by omega), List.getElem_drop]
    congr 1; omega
  rw [hx, List.set_append_right _ _ (by omega), hl, Nat.sub_self, List.drop_eq_getElem_cons hj, List.take_succ_eq_append_getElem hj, List.set_cons_zero, List.map_append, List.append_assoc]
  rfl
/-- what is told of first, and shown later: 'apply later', 'intro tail', .. 'exact tail' wherever that very goal comes up -/
theorem later {T G : Prop} (k : T → G) (h : T) : G := k h
theorem owns_cap {w : World} {B e size n c : Nat} {p : Option Addr} {xs : List Value} (h : w.ownsRow B e size (.slice p n c) n xs) : n ≤ c ∧ c ≤ maxLen := by
  rcases h.2 with ⟨he, h0⟩ | ⟨g, cap, cur, he, _, _, hnc, hcm, _⟩
  · cases he; exact ⟨Nat.le_refl _, Nat.zero_le _⟩
  · cases he; exact ⟨hnc, hcm⟩
/-- the same of a block and a world that are met on the way -/
theorem laterB {T : Nat → World → Prop} {G : Prop} (A : Nat → World → Prop) (k : (∀ b w, A b w → T b w) → G) (h : ∀ b w, A b w → T b w) : G := k h
end Go.Vc
