/- What a function knows of memory while it runs: atoms, each of blocks of its own. No program is named. -/
import Derived.Test.YtljipmhkpnigkaaV13
namespace Go.Vc
open Go.RowKit

/-- a piece of memory that is known: of its blocks, this -/
inductive Atom where
  | blk (b : Nat) (t : TypeId) (cs : List Value)
  /-- the block's first cells -/
  | sl (b : Nat) (t : TypeId) (xs : List Value)
  /-- a slice of the call's own: n elements of so many cells, in all these -/
  | row (B : Nat) (e : TypeId) (size : Nat) (v : Value) (n : Nat) (xs : List Value)
  | any (foot : Nat → Prop) (p : World → Prop) (stable : ∀ {w w' : World} {S : Nat → Prop}, Kp S w w' → (∀ g, foot g → ¬ S g) → p w → p w') (inb : ∀ {w : World}, p w → ∀ g, foot g → g < w.heap.size)
def Atom.foot : Atom → Nat → Prop
  | .blk b _ _ => One b
  | .sl b _ _ => One b
  | .row _ _ _ v _ _ => At v
  | .any f _ _ _ => f
def Atom.p : Atom → World → Prop
  | .blk b t cs, w => Blk w b t cs.toArray
  | .sl b t xs, w => Sl w b t xs
  | .row B e size v n xs, w => w.ownsRow B e size v n xs
  | .any _ p _ _, w => p w
theorem Atom.stable : ∀ (A : Atom) {w w' : World} {S : Nat → Prop}, Kp S w w' → (∀ g, A.foot g → ¬ S g) → A.p w → A.p w'
  | .blk b _ _, _, _, _, hk, hs, h => Blk.kp h hk (hs b rfl)
  | .sl b _ _, _, _, _, hk, hs, h => Sl.kp h hk (hs b rfl)
  | .row .., _, _, _, hk, hs, h => owns_kp h hk hs
  | .any _ _ st _, _, _, _, hk, hs, h => st hk hs h
theorem Atom.inb : ∀ (A : Atom) {w : World}, A.p w → ∀ g, A.foot g → g < w.heap.size
  | .blk .., _, h, _, hg => by cases hg; exact Blk.lt h
  | .sl .., _, h, _, hg => by cases hg; exact Sl.lt h
  | .row .., _, h, _, hg => (owns_at h hg).2
  | .any _ _ _ i, _, h, g, hg => i h g hg
def setsL (cs : List Value) (o : Nat) : List Value → List Value
  | [] => cs
  | v :: r => setsL (cs.set o v) (o + 1) r
theorem setsFrom_toArray : ∀ (l : List Value) (cs : List Value) (o : Nat), setsFrom cs.toArray o l = (setsL cs o l).toArray
  | [], _, _ => rfl
  | v :: r, cs, o => by
    unfold setsFrom setsL
    rw [List.setIfInBounds_toArray]
    exact setsFrom_toArray r _ _

structure St (S : Nat → Prop) (w0 w : World) (L : List Atom) : Prop where
  kp : Kp S w0 w
  hold : ∀ (k : Nat) (A : Atom), L[k]? = some A → A.p w
  own : ∀ (k : Nat) (A : Atom), L[k]? = some A → ∀ g, A.foot g → S g ∨ w0.heap.size ≤ g
  disj : ∀ (j k : Nat) (A B : Atom), j ≠ k → L[j]? = some A → L[k]? = some B → ∀ g, A.foot g → ¬ B.foot g

section
variable {P : Program} {S : Nat → Prop} {w0 w : World} {L : List Atom}
theorem St.start (w : World) : St S w w [] := ⟨Kp.refl _ _, by simp, by simp, by simp⟩
theorem St.start1 {A : Atom} (h : A.p w) (hs : ∀ g, A.foot g → S g) : St S w w [A] := by
  refine ⟨Kp.refl _ _, ?_, ?_, ?_⟩
  · intro k B hk
    match k, hk with
    | 0, hk => cases hk; exact h
  · intro k B hk g hg
    match k, hk with
    | 0, hk => cases hk; exact .inl (hs g hg)
  · intro j k A' B hne hj hk
    match j, k, hj, hk with
    | 0, 0, _, _ => exact absurd rfl hne
theorem St.lt (h : St S w0 w L) {k : Nat} {A : Atom} (hk : L[k]? = some A) {g : Nat} (hg : A.foot g) : g < w.heap.size := A.inb (h.hold k A hk) g hg
theorem set_some {α : Type} {L : List α} {k j : Nat} {a b : α} (h : (L.set k a)[j]? = some b) : (j = k ∧ b = a) ∨ (j ≠ k ∧ L[j]? = some b) := by
  rw [List.getElem?_set] at h
  split at h
  · rename_i hkj
    split at h
    · cases h; exact .inl ⟨hkj.symm, rfl⟩
    · cases h
  · rename_i hkj; exact .inr ⟨fun e => hkj e.symm, h⟩
/-- what is known of others stays -/
theorem St.keep (h : St S w0 w L) {w' : World} (hk : Kp No w w') : St S w0 w' L :=
  ⟨h.kp.step hk (fun _ hn => hn.elim), fun k A hA => A.stable hk (fun _ _ hn => hn) (h.hold k A hA), h.own, h.disj⟩
/-- one atom turns into another one, of its blocks or of new ones -/
theorem St.turn (h : St S w0 w L) (k : Nat) {A : Atom} (hA : L[k]? = some A) {w' : World} {A' : Atom} (hk : Kp A.foot w w') (hp : A'.p w') (hf : ∀ g, A'.foot g → A.foot g ∨ w.heap.size ≤ g) : St S w0 w' (L.set k A') := by
  refine ⟨h.kp.step hk (fun g hg => h.own k A hA g hg), fun j B hB => ?_, fun j B hB g hg => ?_, fun i j B C hij hB hC g hg => ?_⟩
  · rcases set_some hB with ⟨rfl, rfl⟩ | ⟨hne, hB⟩
    · exact hp
    · exact B.stable hk (fun g hg => h.disj j k B A hne hB hA g hg) (h.hold j B hB)
  · rcases set_some hB with ⟨rfl, rfl⟩ | ⟨hne, hB⟩
    · rcases hf g hg with hg | hg
      · exact h.own j A hA g hg
      · exact .inr (Nat.le_trans h.kp.size hg)
    · exact h.own j B hB g hg
  · rcases set_some hB with ⟨e1, e2⟩ | ⟨_, hB1⟩
    · rcases set_some hC with ⟨e3, _⟩ | ⟨_, hC1⟩
      · exact absurd (e1.trans e3.symm) hij
      · intro hc
        rw [e2] at hg
        rcases hf g hg with hg | hg
        · exact h.disj k j A C (e1 ▸ hij) hA hC1 g hg hc
        · have := h.lt hC1 hc; omega
    · rcases set_some hC with ⟨e3, e4⟩ | ⟨_, hC1⟩
      · intro hc
        rw [e4] at hc
        rcases hf g hc with hc | hc
        · exact h.disj i k B A (e3 ▸ hij) hB1 hA g hg hc
        · have := h.lt hB1 hg; omega
      · exact h.disj i j B C hij hB1 hC1 g hg
/-- a new atom, of new blocks -/
theorem St.push (h : St S w0 w L) {w' : World} {A : Atom} (hk : Kp No w w') (hp : A.p w') (hf : ∀ g, A.foot g → w.heap.size ≤ g) : St S w0 w' (A :: L) := by
  have h' := h.keep hk
  refine ⟨h'.kp, fun j B hB => ?_, fun j B hB g hg => ?_, fun i j B C hij hB hC g hg => ?_⟩
  · match j, hB with
    | 0, hB => cases hB; exact hp
    | j + 1, hB => exact h'.hold j B hB
  · match j, hB with
    | 0, hB => cases hB; exact .inr (Nat.le_trans h.kp.size (hf g hg))
    | j + 1, hB => exact h'.own j B hB g hg
  · match i, j, hB, hC with
    | 0, 0, _, _ => exact absurd rfl hij
    | 0, j + 1, hB, hC =>
      cases hB
      intro hc
      have h1 := hf g hg
      have h2 := h.lt (k := j) hC hc
      omega
    | i + 1, 0, hB, hC =>
      cases hC
      intro hc
      have h1 := hf g hc
      have h2 := h.lt (k := i) hB hg
      omega
    | i + 1, j + 1, hB, hC => exact h'.disj i j B C (by omega) hB hC g hg
/-- what is no longer asked for -/
theorem St.drop (h : St S w0 w L) {L' : List Atom} (f : Nat → Nat) (hf : ∀ j k : Nat, f j = f k → j = k) (hl : ∀ (k : Nat) (A : Atom), L'[k]? = some A → L[f k]? = some A) : St S w0 w L' :=
  ⟨h.kp, fun k A hA => h.hold _ A (hl k A hA), fun k A hA => h.own _ A (hl k A hA), fun j k A B hne hA hB => h.disj _ _ A B (fun he => hne (hf j k he)) (hl j A hA) (hl k B hB)⟩
theorem St.tail {A : Atom} (h : St S w0 w (A :: L)) : St S w0 w L := h.drop (· + 1) (fun _ _ h => by omega) (fun _ _ h => h)

/-- these atoms alone -/
theorem St.pick (h : St S w0 w L) (ks : List Nat) {L' : List Atom} (hl : L'.map some = ks.map (fun k => L[k]?)) (hd : ks.Nodup) : St S w0 w L' := by
  have key : ∀ (i : Nat) (A : Atom), L'[i]? = some A → ∃ (hi : i < ks.length), L[ks[i]]? = some A := by
    intro i A hA
    have h1 : (L'.map some)[i]? = some (some A) := by simp [hA]
    rw [hl] at h1
    simp only [List.getElem?_map, Option.map_eq_some_iff] at h1
    obtain ⟨k, hk, h2⟩ := h1
    obtain ⟨hi, rfl⟩ := List.getElem?_eq_some_iff.1 hk
    exact ⟨hi, h2⟩
  refine ⟨h.kp, fun i A hA => ?_, fun i A hA => ?_, fun i j A B hij hA hB => ?_⟩
  · obtain ⟨hi, h2⟩ := key i A hA
    exact h.hold _ A h2
  · obtain ⟨hi, h2⟩ := key i A hA
    exact h.own _ A h2
  · obtain ⟨hi, h2⟩ := key i A hA
    obtain ⟨hj, h3⟩ := key j B hB
    refine h.disj _ _ A B (fun he => ?_) h2 h3
    rw [List.nodup_iff_pairwise_ne, List.pairwise_iff_getElem] at hd
    rcases Nat.lt_trichotomy i j with h4 | h4 | h4
    · exact hd i j hi hj h4 he
    · exact hij h4
    · exact hd j i hj hi h4 he.symm
/- Reads -/
theorem St.cell (h : St S w0 w L) (k : Nat) {b t : Nat} {cs : List Value} {i : Nat} {v : Value} (hA : L[k]? = some (.blk b t cs)) (hv : cs[i]? = some v) : w.cell? ⟨b, i, none⟩ = some v :=
  Blk.at_ (h.hold k _ hA) (by simpa using hv)
theorem St.rows (h : St S w0 w L) (k : Nat) {b t : Nat} {cs : List Value} (hA : L[k]? = some (.blk b t cs)) : Row w ⟨b, 0, none⟩ 0 cs := Row.whole (h.hold k _ hA)
theorem St.rowAt (h : St S w0 w L) (k : Nat) {b t o : Nat} {cs : List Value} {l : List Value} (hA : L[k]? = some (.blk b t cs)) (hl : (cs.drop o).take l.length = l) : Row w ⟨b, o, none⟩ 0 l := by
  refine Row.blk (h.hold k _ hA) fun j v hv => ?_
  have hj : j < l.length := by
    rcases Nat.lt_or_ge j l.length with h' | h'
    · exact h'
    · simp [List.getElem?_eq_none h'] at hv
  rw [← hl, List.getElem?_take_of_lt hj, List.getElem?_drop] at hv
  rw [Nat.zero_add]; simpa using hv
theorem St.cellS (h : St S w0 w L) (k : Nat) {b t : Nat} {xs : List Value} {i : Nat} {v : Value} (hA : L[k]? = some (.sl b t xs)) (hv : xs[i]? = some v) : w.cell? ⟨b, i, none⟩ = some v :=
  Sl.get (h.hold k _ hA) hv
theorem St.wr (h : St S w0 w L) (k : Nat) {b t : Nat} {cs : List Value} {i : Nat} {v : Value} (hA : L[k]? = some (.blk b t cs)) (hv : cs[i]? = some v) : Wr w ⟨b, i, none⟩ := Blk.wr (v := v) (h.hold k _ hA) (by simpa using hv)
theorem St.wrS (h : St S w0 w L) (k : Nat) {b t : Nat} {xs : List Value} {i : Nat} {v : Value} (hA : L[k]? = some (.sl b t xs)) (hv : xs[i]? = some v) : Wr w ⟨b, i, none⟩ :=
  Sl.wr (h.hold k _ hA) (by
    rcases Nat.lt_or_ge i xs.length with h' | h'
    · exact h'
    · simp [List.getElem?_eq_none h'] at hv)
theorem St.wrRow (h : St S w0 w L) (k : Nat) {b t o : Nat} {cs : List Value} {l : List Value} (hA : L[k]? = some (.blk b t cs)) (hn : l.all notAgg = true) (hl : Nat.ble (o + l.length) cs.length = true) : WrRow w ⟨b, o, none⟩ 0 l :=
  WrRow.blk (h.hold k _ hA) (fun v hv => List.all_eq_true.1 hn v hv) (by have := Nat.le_of_ble_eq_true hl; simp; omega)

/- Steps -/
theorem St.alloc (h : St S w0 w L) {t : Nat} {cs : List Value} {F : Nat → World → Prop} (hF : ∀ b w', St S w0 w' (.blk b t cs :: L) → F b w') : LetA (.cells cs.toArray t) w F :=
  LetA.blk fun b w' hb hB hk => hF b w' (h.push hk hB (fun g hg => by cases hg; omega))
theorem St.store (h : St S w0 w L) (k : Nat) {b t i : Nat} {cs : List Value} {u : Value} {F : World → Prop} (hA : L[k]? = some (.blk b t cs)) (hF : ∀ w', St S w0 w' (L.set k (.blk b t (cs.set i u))) → F w') : LetW (w.setCell ⟨b, i, none⟩ u) F :=
  LetW.blk (cs' := (cs.set i u).toArray) (h.hold k _ hA) (by simp) fun w' hB hk => hF w' (h.turn k hA hk hB (fun _ hg => .inl hg))
theorem St.storeS (h : St S w0 w L) (k : Nat) {b t i : Nat} {xs : List Value} {u : Value} {F : World → Prop} (hA : L[k]? = some (.sl b t xs)) (hi : i < xs.length) (hF : ∀ w', St S w0 w' (L.set k (.sl b t (xs.set i u))) → F w') : LetW (w.setCell ⟨b, i, none⟩ u) F :=
  LetW.sl (h.hold k _ hA) hi fun w' hB hk => hF w' (h.turn k hA hk hB (fun _ hg => .inl hg))
theorem St.storeRow (h : St S w0 w L) (k : Nat) {b t o : Nat} {cs : List Value} {l : List Value} {F : World → Prop} (hA : L[k]? = some (.blk b t cs)) (hF : ∀ w', St S w0 w' (L.set k (.blk b t (setsL cs o l))) → F w') : LetW (setRow w ⟨b, o, none⟩ 0 l) F :=
  LetW.row (cs' := (setsL cs o l).toArray) (h.hold k _ hA) (setsFrom_toArray l cs o) fun w' hB hk => hF w' (h.turn k hA hk hB (fun _ hg => .inl hg))
/-- a call that tells one value -/
theorem Pu.go {f : FuncId} {args : Array Value} {v : Value} (h : Pu P f args v) (st : St S w0 w L) {R : Ending → World → Prop} (hR : ∀ w', St S w0 w' L → R (.returned v) w') : Ca P f args w R :=
  (h w).mono fun _ w1 ⟨he, hk⟩ => he ▸ hR w1 (st.keep hk)
/-- a call that tells one value in this world -/
def Pw (P : Program) (f : FuncId) (args : Array Value) (v : Value) (w : World) : Prop := Ca P f args w fun e w' => e = .returned v ∧ Kp No w w'
theorem Pu.at_ {f : FuncId} {args : Array Value} {v : Value} (h : Pu P f args v) (w : World) : Pw P f args v w := h w
theorem Pw.eq {f : FuncId} {args : Array Value} {v v' : Value} {w : World} (h : Pw P f args v w) (e : v = v') : Pw P f args v' w := e ▸ h
theorem Pw.go {f : FuncId} {args : Array Value} {v : Value} {w : World} (h : Pw P f args v w) (st : St S w0 w L) {R : Ending → World → Prop} (hR : ∀ w', St S w0 w' L → R (.returned v) w') : Ca P f args w R :=
  Ca.mono h fun _ w1 ⟨he, hk⟩ => he ▸ hR w1 (st.keep hk)
/-- a call that turns one atom -/
def Tu (P : Program) (f : FuncId) (args : Array Value) (A A' : Atom) (v : Value) : Prop := ∀ w, A.p w → Ca P f args w fun e w' => e = .returned v ∧ A'.p w' ∧ Kp A.foot w w'
theorem Tu.go {f : FuncId} {args : Array Value} {v : Value} {A A' : Atom} (h : Tu P f args A A' v) (st : St S w0 w L) (k : Nat) (hA : L[k]? = some A) (hf : ∀ g, A'.foot g → A.foot g) {R : Ending → World → Prop} (hR : ∀ w', St S w0 w' (L.set k A') → R (.returned v) w') : Ca P f args w R :=
  (h w (st.hold k A hA)).mono fun _ w1 ⟨he, hp, hk⟩ => he ▸ hR w1 (st.turn k hA hk hp (fun g hg => .inl (hf g hg)))
/-- append to a slice of the call's own -/
theorem St.append (h : St S w0 w L) (k : Nat) {t e : TypeId} {i : TypeInfo} {z v : Value} {size bytes n : Nat} {xs : List Value} (ht : P.underlying t = some (.slice e)) (hi : P.info? e = some i) (hz : i.zero = some z)
    (hsize : i.size = size) (hby : i.bytes = bytes) (hzs : z.cells.size = size) (hsz : 0 < size) (hA : L[k]? = some (.row w0.heap.size e size v n xs))
    {a : Addr} {m c : Nat} {news : List Value} (hl : news.length = m * size) (hnews : ∀ j u, news[j]? = some u → w.cell? (a.add j) = some u) (h1 : ∀ u ∈ news, notAgg u = true)
    (h63 : n + m ≤ maxLen) (hbytes : (n + m) * bytes ≤ 140737488355328) {ty : TypeId} {K : Value → World → Prop}
    (hK : ∀ p' c' w', St S w0 w' (L.set k (.row w0.heap.size e size (.slice p' (n + m) c') (n + m) (xs ++ news))) → K (.slice p' (n + m) c') w') :
    RunsV P (Builtin.append_ #[t, t] ty #[v, .slice (some a) m c]) w K :=
  RunsV.append ht hi hz hsize hby hzs hsz (h.hold k _ hA) hl hnews h1 h63 hbytes h.kp.size fun v' w' ho hk hat => by
    obtain ⟨p', c', rfl, _⟩ := owns_form ho
    refine hK p' c' w' (h.turn k hA hk ho fun g hg => ?_)
    rcases hat with hv | hv
    · exact .inl (by show v.ownBlock = some g; rw [← hv]; exact hg)
    · right
      have hg' : (Value.slice p' (n + m) c').ownBlock = some g := hg
      rw [hv] at hg'
      cases hg'; exact Nat.le_refl _
/-- a slice that is none, as one of the call's own -/
theorem St.nil (h : St S w0 w L) (e size : Nat) : St S w0 w (.row w0.heap.size e size (.slice none 0 0) 0 [] :: L) :=
  h.push (Kp.refl _ _) (owns_nil w _ e size) (fun g hg => by cases hg)
end
theorem max64 : IntKind.i64.max = 9223372036854775807 := by decide
theorem sz_and {n : Nat} {q : Prop} (h : n ≤ 9223372036854775807) (k : q) : ((n : Nat) : Int) ≤ IntKind.i64.max ∧ q := ⟨by rw [max64]; omega, k⟩
/- Shapes: what is asked stands apart from what follows -/
theorem ex0c {w : World} {a : Addr} {v : Value} {q : Prop} (h : w.cell? a = some v) (k : q) : w.cell? a = some v ∧ q := ⟨h, k⟩
theorem ex1c {α : Type} {f : α → Value} {w : World} {a : Addr} {q : α → Prop} (x : α) (h : w.cell? a = some (f x)) (k : q x) : ∃ x, w.cell? a = some (f x) ∧ q x := ⟨x, h, k⟩
theorem ex3c {α β γ : Type} {f : α → β → γ → Value} {w : World} {a : Addr} {q : α → β → γ → Prop} (x : α) (y : β) (z : γ) (h : w.cell? a = some (f x y z)) (k : q x y z) : ∃ x y z, w.cell? a = some (f x y z) ∧ q x y z := ⟨x, y, z, h, k⟩
theorem ex0r {w : World} {a : Addr} {l : List Value} {q : Prop} (h : Row w a 0 l) (k : q) : Row w a 0 l ∧ q := ⟨h, k⟩
theorem exWr {w : World} {a : Addr} {q : Prop} (h : Wr w a) (k : q) : Wr w a ∧ q := ⟨h, k⟩
theorem exWrRow {w : World} {a : Addr} {l : List Value} {q : Prop} (h : WrRow w a 0 l) (k : q) : WrRow w a 0 l ∧ q := ⟨h, k⟩
theorem LetW.cell {w : World} {a : Addr} {v : Value} {F : World → Prop} (h : LetW (w.setCell a v) F) : LetW (w.setCell a v) F := h
theorem LetW.rows {w : World} {a : Addr} {l : List Value} {F : World → Prop} (h : LetW (setRow w a 0 l) F) : LetW (setRow w a 0 l) F := h
theorem exr2 {A0 A1 : Type} {f : A0 → A1 → List Value} {w : World} {a : Addr} {q : A0 → A1 → Prop} (x0 : A0) (x1 : A1) (h : Row w a 0 (f x0 x1)) (k : q x0 x1) : ∃ x0 x1, Row w a 0 (f x0 x1) ∧ q x0 x1 := ⟨x0, x1, h, k⟩
theorem exr3 {A0 A1 A2 : Type} {f : A0 → A1 → A2 → List Value} {w : World} {a : Addr} {q : A0 → A1 → A2 → Prop} (x0 : A0) (x1 : A1) (x2 : A2) (h : Row w a 0 (f x0 x1 x2)) (k : q x0 x1 x2) : ∃ x0 x1 x2, Row w a 0 (f x0 x1 x2) ∧ q x0 x1 x2 := ⟨x0, x1, x2, h, k⟩
theorem exr4 {A0 A1 A2 A3 : Type} {f : A0 → A1 → A2 → A3 → List Value} {w : World} {a : Addr} {q : A0 → A1 → A2 → A3 → Prop} (x0 : A0) (x1 : A1) (x2 : A2) (x3 : A3) (h : Row w a 0 (f x0 x1 x2 x3)) (k : q x0 x1 x2 x3) : ∃ x0 x1 x2 x3, Row w a 0 (f x0 x1 x2 x3) ∧ q x0 x1 x2 x3 := ⟨x0, x1, x2, x3, h, k⟩
theorem exr5 {A0 A1 A2 A3 A4 : Type} {f : A0 → A1 → A2 → A3 → A4 → List Value} {w : World} {a : Addr} {q : A0 → A1 → A2 → A3 → A4 → Prop} (x0 : A0) (x1 : A1) (x2 : A2) (x3 : A3) (x4 : A4) (h : Row w a 0 (f x0 x1 x2 x3 x4)) (k : q x0 x1 x2 x3 x4) : ∃ x0 x1 x2 x3 x4, Row w a 0 (f x0 x1 x2 x3 x4) ∧ q x0 x1 x2 x3 x4 := ⟨x0, x1, x2, x3, x4, h, k⟩
theorem exr6 {A0 A1 A2 A3 A4 A5 : Type} {f : A0 → A1 → A2 → A3 → A4 → A5 → List Value} {w : World} {a : Addr} {q : A0 → A1 → A2 → A3 → A4 → A5 → Prop} (x0 : A0) (x1 : A1) (x2 : A2) (x3 : A3) (x4 : A4) (x5 : A5) (h : Row w a 0 (f x0 x1 x2 x3 x4 x5)) (k : q x0 x1 x2 x3 x4 x5) : ∃ x0 x1 x2 x3 x4 x5, Row w a 0 (f x0 x1 x2 x3 x4 x5) ∧ q x0 x1 x2 x3 x4 x5 := ⟨x0, x1, x2, x3, x4, x5, h, k⟩
theorem exr7 {A0 A1 A2 A3 A4 A5 A6 : Type} {f : A0 → A1 → A2 → A3 → A4 → A5 → A6 → List Value} {w : World} {a : Addr} {q : A0 → A1 → A2 → A3 → A4 → A5 → A6 → Prop} (x0 : A0) (x1 : A1) (x2 : A2) (x3 : A3) (x4 : A4) (x5 : A5) (x6 : A6) (h : Row w a 0 (f x0 x1 x2 x3 x4 x5 x6)) (k : q x0 x1 x2 x3 x4 x5 x6) : ∃ x0 x1 x2 x3 x4 x5 x6, Row w a 0 (f x0 x1 x2 x3 x4 x5 x6) ∧ q x0 x1 x2 x3 x4 x5 x6 := ⟨x0, x1, x2, x3, x4, x5, x6, h, k⟩
theorem exr8 {A0 A1 A2 A3 A4 A5 A6 A7 : Type} {f : A0 → A1 → A2 → A3 → A4 → A5 → A6 → A7 → List Value} {w : World} {a : Addr} {q : A0 → A1 → A2 → A3 → A4 → A5 → A6 → A7 → Prop} (x0 : A0) (x1 : A1) (x2 : A2) (x3 : A3) (x4 : A4) (x5 : A5) (x6 : A6) (x7 : A7) (h : Row w a 0 (f x0 x1 x2 x3 x4 x5 x6 x7)) (k : q x0 x1 x2 x3 x4 x5 x6 x7) : ∃ x0 x1 x2 x3 x4 x5 x6 x7, Row w a 0 (f x0 x1 x2 x3 x4 x5 x6 x7) ∧ q x0 x1 x2 x3 x4 x5 x6 x7 := ⟨x0, x1, x2, x3, x4, x5, x6, x7, h, k⟩
theorem exr9 {A0 A1 A2 A3 A4 A5 A6 A7 A8 : Type} {f : A0 → A1 → A2 → A3 → A4 → A5 → A6 → A7 → A8 → List Value} {w : World} {a : Addr} {q : A0 → A1 → A2 → A3 → A4 → A5 → A6 → A7 → A8 → Prop} (x0 : A0) (x1 : A1) (x2 : A2) (x3 : A3) (x4 : A4) (x5 : A5) (x6 : A6) (x7 : A7) (x8 : A8) (h : Row w a 0 (f x0 x1 x2 x3 x4 x5 x6 x7 x8)) (k : q x0 x1 x2 x3 x4 x5 x6 x7 x8) : ∃ x0 x1 x2 x3 x4 x5 x6 x7 x8, Row w a 0 (f x0 x1 x2 x3 x4 x5 x6 x7 x8) ∧ q x0 x1 x2 x3 x4 x5 x6 x7 x8 := ⟨x0, x1, x2, x3, x4, x5, x6, x7, x8, h, k⟩
theorem exr10 {A0 A1 A2 A3 A4 A5 A6 A7 A8 A9 : Type} {f : A0 → A1 → A2 → A3 → A4 → A5 → A6 → A7 → A8 → A9 → List Value} {w : World} {a : Addr} {q : A0 → A1 → A2 → A3 → A4 → A5 → A6 → A7 → A8 → A9 → Prop} (x0 : A0) (x1 : A1) (x2 : A2) (x3 : A3) (x4 : A4) (x5 : A5) (x6 : A6) (x7 : A7) (x8 : A8) (x9 : A9) (h : Row w a 0 (f x0 x1 x2 x3 x4 x5 x6 x7 x8 x9)) (k : q x0 x1 x2 x3 x4 x5 x6 x7 x8 x9) : ∃ x0 x1 x2 x3 x4 x5 x6 x7 x8 x9, Row w a 0 (f x0 x1 x2 x3 x4 x5 x6 x7 x8 x9) ∧ q x0 x1 x2 x3 x4 x5 x6 x7 x8 x9 := ⟨x0, x1, x2, x3, x4, x5, x6, x7, x8, x9, h, k⟩
theorem exr11 {A0 A1 A2 A3 A4 A5 A6 A7 A8 A9 A10 : Type} {f : A0 → A1 → A2 → A3 → A4 → A5 → A6 → A7 → A8 → A9 → A10 → List Value} {w : World} {a : Addr} {q : A0 → A1 → A2 → A3 → A4 → A5 → A6 → A7 → A8 → A9 → A10 → Prop} (x0 : A0) (x1 : A1) (x2 : A2) (x3 : A3) (x4 : A4) (x5 : A5) (x6 : A6) (x7 : A7) (x8 : A8) (x9 : A9) (x10 : A10) (h : Row w a 0 (f x0 x1 x2 x3 x4 x5 x6 x7 x8 x9 x10)) (k : q x0 x1 x2 x3 x4 x5 x6 x7 x8 x9 x10) : ∃ x0 x1 x2 x3 x4 x5 x6 x7 x8 x9 x10, Row w a 0 (f x0 x1 x2 x3 x4 x5 x6 x7 x8 x9 x10) ∧ q x0 x1 x2 x3 x4 x5 x6 x7 x8 x9 x10 := ⟨x0, x1, x2, x3, x4, x5, x6, x7, x8, x9, x10, h, k⟩
theorem exr12 {A0 A1 A2 A3 A4 A5 A6 A7 A8 A9 A10 A11 : Type} {f : A0 → A1 → A2 → A3 → A4 → A5 → A6 → A7 → A8 → A9 → A10 → A11 → List Value} {w : World} {a : Addr} {q : A0 → A1 → A2 → A3 → A4 → A5 → A6 → A7 → A8 → A9 → A10 → A11 → Prop} (x0 : A0) (x1 : A1) (x2 : A2) (x3 : A3) (x4 : A4) (x5 : A5) (x6 : A6) (x7 : A7) (x8 : A8) (x9 : A9) (x10 : A10) (x11 : A11) (h : Row w a 0 (f x0 x1 x2 x3 x4 x5 x6 x7 x8 x9 x10 x11)) (k : q x0 x1 x2 x3 x4 x5 x6 x7 x8 x9 x10 x11) : ∃ x0 x1 x2 x3 x4 x5 x6 x7 x8 x9 x10 x11, Row w a 0 (f x0 x1 x2 x3 x4 x5 x6 x7 x8 x9 x10 x11) ∧ q x0 x1 x2 x3 x4 x5 x6 x7 x8 x9 x10 x11 := ⟨x0, x1, x2, x3, x4, x5, x6, x7, x8, x9, x10, x11, h, k⟩
theorem exr13 {A0 A1 A2 A3 A4 A5 A6 A7 A8 A9 A10 A11 A12 : Type} {f : A0 → A1 → A2 → A3 → A4 → A5 → A6 → A7 → A8 → A9 → A10 → A11 → A12 → List Value} {w : World} {a : Addr} {q : A0 → A1 → A2 → A3 → A4 → A5 → A6 → A7 → A8 → A9 → A10 → A11 → A12 → Prop} (x0 : A0) (x1 : A1) (x2 : A2) (x3 : A3) (x4 : A4) (x5 : A5) (x6 : A6) (x7 : A7) (x8 : A8) (x9 : A9) (x10 : A10) (x11 : A11) (x12 : A12) (h : Row w a 0 (f x0 x1 x2 x3 x4 x5 x6 x7 x8 x9 x10 x11 x12)) (k : q x0 x1 x2 x3 x4 x5 x6 x7 x8 x9 x10 x11 x12) : ∃ x0 x1 x2 x3 x4 x5 x6 x7 x8 x9 x10 x11 x12, Row w a 0 (f x0 x1 x2 x3 x4 x5 x6 x7 x8 x9 x10 x11 x12) ∧ q x0 x1 x2 x3 x4 x5 x6 x7 x8 x9 x10 x11 x12 := ⟨x0, x1, x2, x3, x4, x5, x6, x7, x8, x9, x10, x11, x12, h, k⟩
theorem exr14 {A0 A1 A2 A3 A4 A5 A6 A7 A8 A9 A10 A11 A12 A13 : Type} {f : A0 → A1 → A2 → A3 → A4 → A5 → A6 → A7 → A8 → A9 → A10 → A11 → A12 → A13 → List Value} {w : World} {a : Addr} {q : A0 → A1 → A2 → A3 → A4 → A5 → A6 → A7 → A8 → A9 → A10 → A11 → A12 → A13 → Prop} (x0 : A0) (x1 : A1) (x2 : A2) (x3 : A3) (x4 : A4) (x5 : A5) (x6 : A6) (x7 : A7) (x8 : A8) (x9 : A9) (x10 : A10) (x11 : A11) (x12 : A12) (x13 : A13) (h : Row w a 0 (f x0 x1 x2 x3 x4 x5 x6 x7 x8 x9 x10 x11 x12 x13)) (k : q x0 x1 x2 x3 x4 x5 x6 x7 x8 x9 x10 x11 x12 x13) : ∃ x0 x1 x2 x3 x4 x5 x6 x7 x8 x9 x10 x11 x12 x13, Row w a 0 (f x0 x1 x2 x3 x4 x5 x6 x7 x8 x9 x10 x11 x12 x13) ∧ q x0 x1 x2 x3 x4 x5 x6 x7 x8 x9 x10 x11 x12 x13 := ⟨x0, x1, x2, x3, x4, x5, x6, x7, x8, x9, x10, x11, x12, x13, h, k⟩
theorem exr15 {A0 A1 A2 A3 A4 A5 A6 A7 A8 A9 A10 A11 A12 A13 A14 : Type} {f : A0 → A1 → A2 → A3 → A4 → A5 → A6 → A7 → A8 → A9 → A10 → A11 → A12 → A13 → A14 → List Value} {w : World} {a : Addr} {q : A0 → A1 → A2 → A3 → A4 → A5 → A6 → A7 → A8 → A9 → A10 → A11 → A12 → A13 → A14 → Prop} (x0 : A0) (x1 : A1) (x2 : A2) (x3 : A3) (x4 : A4) (x5 : A5) (x6 : A6) (x7 : A7) (x8 : A8) (x9 : A9) (x10 : A10) (x11 : A11) (x12 : A12) (x13 : A13) (x14 : A14) (h : Row w a 0 (f x0 x1 x2 x3 x4 x5 x6 x7 x8 x9 x10 x11 x12 x13 x14)) (k : q x0 x1 x2 x3 x4 x5 x6 x7 x8 x9 x10 x11 x12 x13 x14) : ∃ x0 x1 x2 x3 x4 x5 x6 x7 x8 x9 x10 x11 x12 x13 x14, Row w a 0 (f x0 x1 x2 x3 x4 x5 x6 x7 x8 x9 x10 x11 x12 x13 x14) ∧ q x0 x1 x2 x3 x4 x5 x6 x7 x8 x9 x10 x11 x12 x13 x14 := ⟨x0, x1, x2, x3, x4, x5, x6, x7, x8, x9, x10, x11, x12, x13, x14, h, k⟩
theorem exr16 {A0 A1 A2 A3 A4 A5 A6 A7 A8 A9 A10 A11 A12 A13 A14 A15 : Type} {f : A0 → A1 → A2 → A3 → A4 → A5 → A6 → A7 → A8 → A9 → A10 → A11 → A12 → A13 → A14 → A15 → List Value} {w : World} {a : Addr} {q : A0 → A1 → A2 → A3 → A4 → A5 → A6 → A7 → A8 → A9 → A10 → A11 → A12 → A13 → A14 → A15 → Prop} (x0 : A0) (x1 : A1) (x2 : A2) (x3 : A3) (x4 : A4) (x5 : A5) (x6 : A6) (x7 : A7) (x8 : A8) (x9 : A9) (x10 : A10) (x11 : A11) (x12 : A12) (x13 : A13) (x14 : A14) (x15 : A15) (h : Row w a 0 (f x0 x1 x2 x3 x4 x5 x6 x7 x8 x9 x10 x11 x12 x13 x14 x15)) (k : q x0 x1 x2 x3 x4 x5 x6 x7 x8 x9 x10 x11 x12 x13 x14 x15) : ∃ x0 x1 x2 x3 x4 x5 x6 x7 x8 x9 x10 x11 x12 x13 x14 x15, Row w a 0 (f x0 x1 x2 x3 x4 x5 x6 x7 x8 x9 x10 x11 x12 x13 x14 x15) ∧ q x0 x1 x2 x3 x4 x5 x6 x7 x8 x9 x10 x11 x12 x13 x14 x15 := ⟨x0, x1, x2, x3, x4, x5, x6, x7, x8, x9, x10, x11, x12, x13, x14, x15, h, k⟩
theorem exr17 {A0 A1 A2 A3 A4 A5 A6 A7 A8 A9 A10 A11 A12 A13 A14 A15 A16 : Type} {f : A0 → A1 → A2 → A3 → A4 → A5 → A6 → A7 → A8 → A9 → A10 → A11 → A12 → A13 → A14 → A15 → A16 → List Value} {w : World} {a : Addr} {q : A0 → A1 → A2 → A3 → A4 → A5 → A6 → A7 → A8 → A9 → A10 → A11 → A12 → A13 → A14 → A15 → A16 → Prop} (x0 : A0) (x1 : A1) (x2 : A2) (x3 : A3) (x4 : A4) (x5 : A5) (x6 : A6) (x7 : A7) (x8 : A8) (x9 : A9) (x10 : A10) (x11 : A11) (x12 : A12) (x13 : A13) (x14 : A14) (x15 : A15) (x16 : A16) (h : Row w a 0 (f x0 x1 x2 x3 x4 x5 x6 x7 x8 x9 x10 x11 x12 x13 x14 x15 x16)) (k : q x0 x1 x2 x3 x4 x5 x6 x7 x8 x9 x10 x11 x12 x13 x14 x15 x16) : ∃ x0 x1 x2 x3 x4 x5 x6 x7 x8 x9 x10 x11 x12 x13 x14 x15 x16, Row w a 0 (f x0 x1 x2 x3 x4 x5 x6 x7 x8 x9 x10 x11 x12 x13 x14 x15 x16) ∧ q x0 x1 x2 x3 x4 x5 x6 x7 x8 x9 x10 x11 x12 x13 x14 x15 x16 := ⟨x0, x1, x2, x3, x4, x5, x6, x7, x8, x9, x10, x11, x12, x13, x14, x15, x16, h, k⟩
theorem exr18 {A0 A1 A2 A3 A4 A5 A6 A7 A8 A9 A10 A11 A12 A13 A14 A15 A16 A17 : Type} {f : A0 → A1 → A2 → A3 → A4 → A5 → A6 → A7 → A8 → A9 → A10 → A11 → A12 → A13 → A14 → A15 → A16 → A17 → List Value} {w : World} {a : Addr} {q : A0 → A1 → A2 → A3 → A4 → A5 → A6 → A7 → A8 → A9 → A10 → A11 → A12 → A13 → A14 → A15 → A16 → A17 → Prop} (x0 : A0) (x1 : A1) (x2 : A2) (x3 : A3) (x4 : A4) (x5 : A5) (x6 : A6) (x7 : A7) (x8 : A8) (x9 : A9) (x10 : A10) (x11 : A11) (x12 : A12) (x13 : A13) (x14 : A14) (x15 : A15) (x16 : A16) (x17 : A17) (h : Row w a 0 (f x0 x1 x2 x3 x4 x5 x6 x7 x8 x9 x10 x11 x12 x13 x14 x15 x16 x17)) (k : q x0 x1 x2 x3 x4 x5 x6 x7 x8 x9 x10 x11 x12 x13 x14 x15 x16 x17) : ∃ x0 x1 x2 x3 x4 x5 x6 x7 x8 x9 x10 x11 x12 x13 x14 x15 x16 x17, Row w a 0 (f x0 x1 x2 x3 x4 x5 x6 x7 x8 x9 x10 x11 x12 x13 x14 x15 x16 x17) ∧ q x0 x1 x2 x3 x4 x5 x6 x7 x8 x9 x10 x11 x12 x13 x14 x15 x16 x17 := ⟨x0, x1, x2, x3, x4, x5, x6, x7, x8, x9, x10, x11, x12, x13, x14, x15, x16, x17, h, k⟩
theorem exr19 {A0 A1 A2 A3 A4 A5 A6 A7 A8 A9 A10 A11 A12 A13 A14 A15 A16 A17 A18 : Type} {f : A0 → A1 → A2 → A3 → A4 → A5 → A6 → A7 → A8 → A9 → A10 → A11 → A12 → A13 → A14 → A15 → A16 → A17 → A18 → List Value} {w : World} {a : Addr} {q : A0 → A1 → A2 → A3 → A4 → A5 → A6 → A7 → A8 → A9 → A10 → A11 → A12 → A13 → A14 → A15 → A16 → A17 → A18 → Prop} (x0 : A0) (x1 : A1) (x2 : A2) (x3 : A3) (x4 : A4) (x5 : A5) (x6 : A6) (x7 : A7) (x8 : A8) (x9 : A9) (x10 : A10) (x11 : A11) (x12 : A12) (x13 : A13) (x14 : A14) (x15 : A15) (x16 : A16) (x17 : A17) (x18 : A18) (h : Row w a 0 (f x0 x1 x2 x3 x4 x5 x6 x7 x8 x9 x10 x11 x12 x13 x14 x15 x16 x17 x18)) (k : q x0 x1 x2 x3 x4 x5 x6 x7 x8 x9 x10 x11 x12 x13 x14 x15 x16 x17 x18) : ∃ x0 x1 x2 x3 x4 x5 x6 x7 x8 x9 x10 x11 x12 x13 x14 x15 x16 x17 x18, Row w a 0 (f x0 x1 x2 x3 x4 x5 x6 x7 x8 x9 x10 x11 x12 x13 x14 x15 x16 x17 x18) ∧ q x0 x1 x2 x3 x4 x5 x6 x7 x8 x9 x10 x11 x12 x13 x14 x15 x16 x17 x18 := ⟨x0, x1, x2, x3, x4, x5, x6, x7, x8, x9, x10, x11, x12, x13, x14, x15, x16, x17, x18, h, k⟩
theorem exr20 {A0 A1 A2 A3 A4 A5 A6 A7 A8 A9 A10 A11 A12 A13 A14 A15 A16 A17 A18 A19 : Type} {f : A0 → A1 → A2 → A3 → A4 → A5 → A6 → A7 → A8 → A9 → A10 → A11 → A12 → A13 → A14 → A15 → A16 → A17 → A18 → A19 → List Value} {w : World} {a : Addr} {q : A0 → A1 → A2 → A3 → A4 → A5 → A6 → A7 → A8 → A9 → A10 → A11 → A12 → A13 → A14 → A15 → A16 → A17 → A18 → A19 → Prop} (x0 : A0) (x1 : A1) (x2 : A2) (x3 : A3) (x4 : A4) (x5 : A5) (x6 : A6) (x7 : A7) (x8 : A8) (x9 : A9) (x10 : A10) (x11 : A11) (x12 : A12) (x13 : A13) (x14 : A14) (x15 : A15) (x16 : A16) (x17 : A17) (x18 : A18) (x19 : A19) (h : Row w a 0 (f x0 x1 x2 x3 x4 x5 x6 x7 x8 x9 x10 x11 x12 x13 x14 x15 x16 x17 x18 x19)) (k : q x0 x1 x2 x3 x4 x5 x6 x7 x8 x9 x10 x11 x12 x13 x14 x15 x16 x17 x18 x19) : ∃ x0 x1 x2 x3 x4 x5 x6 x7 x8 x9 x10 x11 x12 x13 x14 x15 x16 x17 x18 x19, Row w a 0 (f x0 x1 x2 x3 x4 x5 x6 x7 x8 x9 x10 x11 x12 x13 x14 x15 x16 x17 x18 x19) ∧ q x0 x1 x2 x3 x4 x5 x6 x7 x8 x9 x10 x11 x12 x13 x14 x15 x16 x17 x18 x19 := ⟨x0, x1, x2, x3, x4, x5, x6, x7, x8, x9, x10, x11, x12, x13, x14, x15, x16, x17, x18, x19, h, k⟩
/- Branches -/
section
variable {x y : Prop}
theorem Br.dec {c : Prop} [Decidable c] (h1 : c → x) (h2 : ¬ c → y) : Br (decide c) x y := by
  by_cases h : c
  · rw [decide_eq_true h]; exact h1 h
  · rw [decide_eq_false h]; exact h2 h
theorem Br.eqi {a b : Int} (h1 : a = b → x) (h2 : a ≠ b → y) : Br (a == b) x y := Br.dec (c := a = b) h1 h2
theorem Br.nei {a b : Int} (h1 : a ≠ b → x) (h2 : a = b → y) : Br (a != b) x y := by rw [int_bne]; exact Br.dec h1 fun h => h2 (Decidable.not_not.1 h)
theorem Br.eqs {a b : List UInt8} (h1 : a = b → x) (h2 : a ≠ b → y) : Br ((mk a).toList == b) x y := by rw [mk_eqb]; exact Br.dec h1 h2
theorem Br.eqs' {a b : List UInt8} (h1 : a = b → x) (h2 : a ≠ b → y) : Br ((mk a).toList == (mk b).toList) x y := by rw [mk_eqb']; exact Br.dec h1 h2
theorem Br.not {b : Bool} (h : Br b y x) : Br (!b) x y := by cases b <;> exact h
theorem Br.and_ {a b : Bool} (h : Br a (Br b x y) y) : Br (a && b) x y := by cases a <;> exact h
theorem Br.bool {b : Bool} (h1 : b = true → x) (h2 : b = false → y) : Br b x y := Br.intro h1 h2
theorem Br.eqb {a b : Bool} (h1 : a = b → x) (h2 : a ≠ b → y) : Br (a == b) x y := by
  cases a <;> cases b <;> first | exact h1 rfl | exact h2 (by decide)
end
end Go.Vc
