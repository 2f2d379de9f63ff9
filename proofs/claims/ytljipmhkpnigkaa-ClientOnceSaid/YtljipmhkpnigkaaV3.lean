/- Verification conditions: regions, with and without a drawn order, and code. -/
import Derived.Test.YtljipmhkpnigkaaV2
namespace Go.Vc
section
variable {P : Program}

/- One operation, guarded -/
def gslot (ops : Array Oper) (j : Nat) : Option Tmp := match ops[j]? with
  | some o => o.dst
  | none => none
def vcGuard (ops : Array Oper) (o : Oper) (e : Env) (run skip : Env → Prop) : Prop := match o.guard with
  | none => run e
  | some (j, want) => match gslot ops j with
    | none => False
    | some s => match get e s with
      | some (.bool b) => match want with
        | true => Br b (Ev (put e (some s) (.bool true)) run) (Ev (put e (some s) (.bool false)) skip)
        | false => Br b (Ev (put e (some s) (.bool true)) skip) (Ev (put e (some s) (.bool false)) run)
      | some (.tuple _) => skip e
      | _ => False
def opFits (n : Nat) (o : Oper) (e : Env) (X : Prop) : Prop := match fitsDst n o.dst with
  | true => match knowsAll e o.op.operands.toList with
    | true => X
    | false => False
  | false => False

theorem opFits_spec {n : Nat} {o : Oper} {e : Env} {X : Prop} (h : opFits n o e X) : fitsDst n o.dst = true ∧ knowsAll e o.op.operands.toList = true ∧ X := by
  unfold opFits at h
  split at h
  · rename_i h1
    split at h
    · rename_i h2; exact ⟨h1, h2, h⟩
    · exact h.elim
  · exact h.elim

theorem Rep.refine_ {n : Nat} {e : Env} {a : Act} (h : Rep n e a) {s : Nat} {v : Value} (hs : get e s = some v) : Rep n (Vc.put e (some s) v) a := by
  refine ⟨h.size, h.defers, fun t u hu => ?_⟩
  by_cases hst : s = t
  · subst hst
    have hu' : v = u := by simpa [Vc.put, get_cons_self] using hu
    subst hu'
    exact h.at_ _ _ hs
  · exact h.at_ t u (by simpa [Vc.put, get_cons_ne _ _ hst] using hu)

theorem yielded_of {n : Nat} {ops : Array Oper} {e : Env} {a : Act} (h : Rep n e a) {j : Nat} {s : Tmp} {v : Value} (hj : gslot ops j = some s) (hs : get e s = some v) :
    yielded ops a.tmps j = match v with
      | .bool b => some b
      | _ => none := by
  unfold gslot at hj
  have hd : (ops[j]?).bind (·.dst) = some s := by
    cases ho : ops[j]? with
    | none => rw [ho] at hj; cases hj
    | some o => rw [ho] at hj; simpa using hj
  unfold yielded
  rw [hd]
  simp only [Option.bind_some, h.at_ s v hs]
  cases v <;> rfl

/-- What a guard decides: the operation is wanted, or not; with an environment that knows it. -/
theorem vcGuard_spec {n : Nat} {ops : Array Oper} {o : Oper} {e : Env} {run skip : Env → Prop} (h : vcGuard ops o e run skip) {a : Act} (hr : Rep n e a) :
    ∃ e', Rep n e' a ∧ ((Region.wanted o (yielded ops a.tmps) = true ∧ run e') ∨ (Region.wanted o (yielded ops a.tmps) = false ∧ skip e')) := by
  unfold vcGuard at h
  split at h
  · rename_i hg
    exact ⟨e, hr, .inl ⟨by simp [Region.wanted, hg], h⟩⟩
  · rename_i j want hg
    split at h
    · exact h.elim
    · rename_i s hj
      split at h
      · rename_i b hs
        have hy : yielded ops a.tmps j = some b := by simpa using yielded_of hr hj hs
        split at h
        · rcases Br.spec h with ⟨rfl, h⟩ | ⟨rfl, h⟩
          · exact ⟨_, hr.refine_ hs, .inl ⟨by simp [Region.wanted, hg, hy], h⟩⟩
          · exact ⟨_, hr.refine_ hs, .inr ⟨by simp [Region.wanted, hg, hy], h⟩⟩
        · rcases Br.spec h with ⟨rfl, h⟩ | ⟨rfl, h⟩
          · exact ⟨_, hr.refine_ hs, .inr ⟨by simp [Region.wanted, hg, hy], h⟩⟩
          · exact ⟨_, hr.refine_ hs, .inl ⟨by simp [Region.wanted, hg, hy], h⟩⟩
      · rename_i hs
        have hy : yielded ops a.tmps j = none := by simpa using yielded_of hr hj hs
        exact ⟨e, hr, .inr ⟨by simp [Region.wanted, hg, hy], h⟩⟩
      · exact h.elim

theorem exec_same {n : Nat} {e : Env} {a : Act} {o : Oper} (hr : Rep n e a) (hk : knowsAll e o.op.operands.toList = true) (hs : ∀ cs b, o.op ≠ .select cs b) : execOp a.eval o = execOp (evD e) o :=
  execOp_congr o hs fun x hx => hr.evD hk x (by simpa using hx)

/- A region in the order of the text -/
variable (P)
def vcOne (o : Oper) (ρ : Operand → Value) (w : World) (K : Value → World → Prop) : Prop := match nonEff P o with
  | true => vcNon P o ρ w fun v _ => K v w
  | false => vcEff P o ρ w K
def vcList (n : Nat) (ops : Array Oper) : List Oper → Env → World → (Env → World → Prop) → Prop
  | [], e, w, K => K e w
  | o :: r, e, w, K => vcGuard ops o e (fun e => opFits n o e (vcOne P o (evD e) w fun v w' => Ev (put e o.dst v) fun e => vcList n ops r e w' K))
      (fun e => Need (fitsDst n o.dst) (Ev (put e o.dst undef) fun e => vcList n ops r e w K))
variable {P}

/-- What stands behind code, in the model's words. -/
def Same (W : Nat → Prop) (a b : Act) : Prop := ∀ t, ¬ W t → b.tmps[t]? = a.tmps[t]?
theorem Same.refl (W : Nat → Prop) (a : Act) : Same W a a := fun _ _ => rfl
theorem Same.put {W : Nat → Prop} {a b : Act} (h : Same W a b) {dst : Option Tmp} (hd : ∀ d, dst = some d → W d) (v : Value) : Same W a (b.put dst v) := by
  cases dst with
  | none => exact h
  | some d =>
    intro t ht
    have hne : d ≠ t := fun e => ht (e ▸ hd d rfl)
    simp only [Act.put]
    rw [Array.getElem?_setIfInBounds_ne hne]
    exact h t ht
def Up (n : Nat) (W : Nat → Prop) (a₀ : Act) (K : Exit → Env → World → Prop) : Exit → Act → World → Prop
  | .panic _, _, _ => False
  | .outgrown, _, _ => False
  | x, a, w => Same W a₀ a ∧ ∃ e m w', Rep n e a ∧ w = World.drewN w' m ∧ K x e w'

theorem vcOne_spec {o : Oper} {ρ : Operand → Value} {w : World} {K : Value → World → Prop} (h : vcOne P o ρ w K) {a : Act} (he : execOp a.eval o = execOp ρ o) (m : Nat) (Q : Exit → Act → World → Prop) :
    o.wp P a (w.drewN m) (Done a o.dst K) Q := by
  unfold vcOne at h
  split at h
  · obtain ⟨v, S, hK, hS, hI, hr⟩ := vcNon_spec h
    exact upon_of_value he (hr _ (hI _ m hS)) hK
  · exact vcEff_spec h he m Q

def noSel (o : Oper) : Bool := match o.op with
  | .select _ _ => false
  | _ => true
theorem noSel_spec {o : Oper} (h : noSel o = true) : ∀ cs b, o.op ≠ .select cs b := by
  intro cs b he
  simp [noSel, he] at h


theorem vcList_spec {n : Nat} {ops : Array Oper} {W : Nat → Prop} {a₀ : Act} {K : Exit → Env → World → Prop} (hs : ∀ o ∈ ops.toList, noSel o = true) (hW : ∀ o ∈ ops.toList, ∀ d, o.dst = some d → W d) : ∀ (l : List Oper), (∀ o ∈ l, o ∈ ops.toList) → ∀ (e : Env) (w : World), vcList P n ops l e w (K .normal) →
    ∀ (a : Act) (m : Nat), Rep n e a → Same W a₀ a → wpList P ops (Up n W a₀ K) l a (w.drewN m)
  | [], _, e, w, h, a, m, hr, hf => ⟨hf, e, m, w, hr, rfl, h⟩
  | o :: r, hl, e, w, h, a, m, hr, hf => by
    obtain ⟨e', hr', h⟩ := vcGuard_spec h hr
    have hd := hW o (hl o List.mem_cons_self)
    have ih := vcList_spec (n := n) (a₀ := a₀) (K := K) hs hW r (fun o ho => hl o (List.mem_cons_of_mem _ ho))
    unfold wpList
    rcases h with ⟨hw, h⟩ | ⟨hw, h⟩
    · rw [if_pos hw]
      obtain ⟨h1, h2, h⟩ := opFits_spec h
      refine .inl (Oper.wp_mono ?_ (vcOne_spec h (exec_same hr' h2 (noSel_spec (hs o (hl o List.mem_cons_self)))) m _))
      rintro a' w' ⟨v, m', w'', rfl, rfl, hK⟩
      exact ih _ _ hK _ _ (hr'.put h1 v) (hf.put hd v)
    · rw [if_neg (by simp [hw])]
      obtain ⟨h1, h⟩ := Need.spec h
      exact ih _ _ h _ _ (hr'.put h1 undef) (hf.put hd undef)

/- A region whose order is drawn: what does nothing to the world is taken as soon as it may come; what it read must stay so while it may still be to come -/
abbrev Pend := List (List Nat × (World → Prop))
def after1 (o : Oper) (owners : List Nat) : Bool := o.after.toList.any fun e => Region.binds .any e && owners.contains e.on
def dropL (o : Oper) : Pend → Pend
  | [] => []
  | p :: r => match after1 o p.1 with
    | true => dropL o r
    | false => p :: dropL o r
def ownL (i : Nat) (o : Oper) : Pend → Pend
  | [] => []
  | p :: r => (match after1 o p.1 with
    | true => (i :: p.1, p.2)
    | false => p) :: ownL i o r
def HoldL : Pend → World → Prop
  | [], _ => True
  | p :: r, w => p.2 w ∧ HoldL r w

theorem HoldL.all : ∀ {l : Pend} {w : World}, HoldL l w → ∀ p ∈ l, p.2 w
  | _ :: _, _, h, q, hq => by
    rcases List.mem_cons.1 hq with rfl | hq
    · exact h.1
    · exact HoldL.all h.2 q hq
theorem HoldL.of : ∀ {l : Pend} {w : World}, (∀ p ∈ l, p.2 w) → HoldL l w
  | [], _, _ => trivial
  | p :: _, _, h => ⟨h p List.mem_cons_self, HoldL.of fun q hq => h q (List.mem_cons_of_mem _ hq)⟩
theorem mem_dropL {o : Oper} {p : List Nat × (World → Prop)} : ∀ {l : Pend}, p ∈ dropL o l ↔ p ∈ l ∧ after1 o p.1 = false
  | [] => by simp [dropL]
  | q :: r => by
    have ih := mem_dropL (o := o) (p := p) (l := r)
    unfold dropL
    cases hq : after1 o q.1 with
    | true =>
      simp only [ih, List.mem_cons]
      constructor
      · rintro ⟨h1, h2⟩; exact ⟨.inr h1, h2⟩
      · rintro ⟨rfl | h1, h2⟩
        · rw [hq] at h2; cases h2
        · exact ⟨h1, h2⟩
    | false =>
      simp only [ih, List.mem_cons]
      constructor
      · rintro (rfl | ⟨h1, h2⟩)
        · exact ⟨.inl rfl, hq⟩
        · exact ⟨.inr h1, h2⟩
      · rintro ⟨rfl | h1, h2⟩
        · exact .inl rfl
        · exact .inr ⟨h1, h2⟩
def own1 (i : Nat) (o : Oper) (p : List Nat × (World → Prop)) : List Nat × (World → Prop) := match after1 o p.1 with
  | true => (i :: p.1, p.2)
  | false => p
theorem ownL_map (i : Nat) (o : Oper) : ∀ (l : Pend), ownL i o l = l.map (own1 i o)
  | [] => rfl
  | p :: r => by simp only [ownL, List.map_cons, ownL_map i o r, own1]
theorem after1_mono {o : Oper} {l l' : List Nat} (h : ∀ x ∈ l, x ∈ l') (ha : after1 o l = true) : after1 o l' = true := by
  unfold after1 at *
  rw [List.any_eq_true] at *
  obtain ⟨e, he, h2⟩ := ha
  refine ⟨e, he, ?_⟩
  simp only [Bool.and_eq_true, List.contains_iff_mem] at h2 ⊢
  exact ⟨h2.1, h _ h2.2⟩
theorem after1_cons {o : Oper} {i : Nat} {l : List Nat} (h : ∀ e ∈ o.after, Region.binds .any e = true → e.on ≠ i) : after1 o (i :: l) = after1 o l := by
  unfold after1
  rw [Bool.eq_iff_iff, List.any_eq_true, List.any_eq_true]
  constructor
  · rintro ⟨e, he, h2⟩
    simp only [Bool.and_eq_true, List.contains_iff_mem, List.mem_cons] at h2
    refine ⟨e, he, ?_⟩
    rcases h2.2 with h3 | h3
    · exact absurd h3 (h e (by simpa using he) h2.1)
    · simp [h2.1, h3]
  · rintro ⟨e, he, h2⟩
    simp only [Bool.and_eq_true, List.contains_iff_mem] at h2
    exact ⟨e, he, by simp [h2.1, h2.2]⟩

/-- 'every entry of l has one of l' that asks the same, and is dropped no sooner' -/
def Sub (l l' : Pend) : Prop := ∀ p ∈ l, ∃ q ∈ l', q.2 = p.2 ∧ ∀ x ∈ q.1, x ∈ p.1
theorem Sub.drop {l l' : Pend} (h : Sub l l') (o : Oper) : Sub (dropL o l) (dropL o l') := by
  intro p hp
  obtain ⟨hp1, hp2⟩ := mem_dropL.1 hp
  obtain ⟨q, hq, h1, h2⟩ := h p hp1
  refine ⟨q, mem_dropL.2 ⟨hq, ?_⟩, h1, h2⟩
  cases ha : after1 o q.1 with
  | false => rfl
  | true => rw [after1_mono h2 ha] at hp2; cases hp2
theorem Sub.hold {l l' : Pend} (h : Sub l l') {w : World} (hh : HoldL l' w) : HoldL l w :=
  HoldL.of fun p hp => by
    obtain ⟨q, hq, h1, _⟩ := h p hp
    rw [← h1]; exact hh.all q hq

variable {ops : Array Oper} {Q : Exit → Act → World → Prop}
def dropAt (ops : Array Oper) (i : Nat) (l : Pend) : Pend := match ops[i]? with
  | some o => dropL o l
  | none => l
def wpAnyD (P : Program) (ops : Array Oper) (Q : Exit → Act → World → Prop) : Nat → Pend → Array Bool → Act → World → Prop
  | 0, _, listed, a, w => Region.ready .any ops listed = [] ∧ Q .normal a w
  | fuel + 1, l, listed, a, w =>
    (Region.ready .any ops listed = [] → Q .normal a w) ∧
    ∀ i ∈ Region.ready .any ops listed, wpOp P ops Q i (fun a' w' => HoldL (dropAt ops i l) w' ∧ wpAnyD P ops Q fuel (dropAt ops i l) (listed.setIfInBounds i true) a' w') a w

theorem wpAny_of_D : ∀ (fuel : Nat) (l : Pend) (listed : Array Bool) (a : Act) (w : World), wpAnyD P ops Q fuel l listed a w → wpAny P .any ops Q fuel listed a w
  | 0, _, _, _, _, h => h
  | fuel + 1, _, _, _, _, h => ⟨h.1, fun i hi => wpOp_mono (fun a' w' h' => wpAny_of_D fuel _ _ a' w' h'.2) (h.2 i hi)⟩

theorem Sub.dropAt {l l' : Pend} (h : Sub l l') (i : Nat) : Sub (dropAt ops i l) (dropAt ops i l') := by
  unfold Vc.dropAt
  split
  · exact h.drop _
  · exact h
theorem wpAnyD_less : ∀ (fuel : Nat) (l l' : Pend) (listed : Array Bool) (a : Act) (w : World), Sub l l' → wpAnyD P ops Q fuel l' listed a w → wpAnyD P ops Q fuel l listed a w
  | 0, _, _, _, _, _, _, h => h
  | fuel + 1, _, _, _, _, _, hs, h => ⟨h.1, fun i hi => wpOp_mono (fun _ _ h' => ⟨(hs.dropAt i).hold h'.1, wpAnyD_less fuel _ _ _ _ _ (hs.dropAt i) h'.2⟩) (h.2 i hi)⟩
/-- What always holds may be asked. -/
def Ext (l l' : Pend) : Prop := ∀ p ∈ l', (∀ w, p.2 w) ∨ p ∈ l
theorem Ext.dropAt {l l' : Pend} (h : Ext l l') (i : Nat) : Ext (dropAt ops i l) (dropAt ops i l') := by
  unfold Vc.dropAt
  split
  · intro p hp
    obtain ⟨h1, h2⟩ := mem_dropL.1 hp
    exact (h p h1).imp id fun h3 => mem_dropL.2 ⟨h3, h2⟩
  · exact h
theorem Ext.hold {l l' : Pend} (h : Ext l l') {w : World} (hh : HoldL l w) : HoldL l' w := HoldL.of fun p hp => (h p hp).elim (fun h => h w) fun h => hh.all p h
theorem wpAnyD_more : ∀ (fuel : Nat) (l l' : Pend) (listed : Array Bool) (a : Act) (w : World), Ext l l' → wpAnyD P ops Q fuel l listed a w → wpAnyD P ops Q fuel l' listed a w
  | 0, _, _, _, _, _, _, h => h
  | fuel + 1, _, _, _, _, _, hs, h => ⟨h.1, fun i hi => wpOp_mono (fun _ _ h' => ⟨(hs.dropAt i).hold h'.1, wpAnyD_more fuel _ _ _ _ _ (hs.dropAt i) h'.2⟩) (h.2 i hi)⟩

theorem sub_own (i : Nat) (o : Oper) (S : World → Prop) (l : Pend) : Sub (dropL o l) (([i], S) :: ownL i o l) := by
  intro p hp
  obtain ⟨h1, h2⟩ := mem_dropL.1 hp
  refine ⟨p, List.mem_cons_of_mem _ ?_, rfl, fun _ h => h⟩
  rw [ownL_map]
  exact List.mem_map.2 ⟨p, h1, by simp [own1, h2]⟩
theorem drop_own {i : Nat} {oi oj : Oper} (h : ∀ e ∈ oj.after, Region.binds .any e = true → e.on ≠ i) : ∀ (l : Pend), dropL oj (ownL i oi l) = ownL i oi (dropL oj l)
  | [] => rfl
  | p :: r => by
    have ih := drop_own (oi := oi) h r
    have hb : after1 oj (own1 i oi p).1 = after1 oj p.1 := by
      unfold own1
      split
      · exact after1_cons h
      · rfl
    show dropL oj (own1 i oi p :: ownL i oi r) = _
    unfold dropL
    rw [hb]
    cases ha : after1 oj p.1 with
    | true => exact ih
    | false => show own1 i oi p :: dropL oj (ownL i oi r) = ownL i oi (p :: dropL oj r); rw [ih]; rfl

/-- One operation that only reads, and may come now, is taken first. -/
theorem wpAnyD_first {i : Nat} {oi : Oper} {v : Value} {S : World → Prop} (hi : ops[i]? = some oi) (hsel : ∀ (j : Nat) (o : Oper) cs b, ops[j]? = some o → o.op ≠ .select cs b)
    (hQ : ∀ c a w, Q (.panic c) (a.put oi.dst v) w → Q (.panic c) a w) :
    ∀ (fuel : Nat) (l : Pend) (listed : Array Bool) (a : Act) (w : World),
      (∀ j oj, ops[j]? = some oj → j ≠ i → listed.getD j true = false → (∀ e ∈ oj.after, Region.binds .any e = true → e.on ≠ i) → oi.apart ops oj = true) →
      i ∈ Region.ready .any ops listed → YieldsIf P ops S oi v a → S w → HoldL l w →
      wpAnyD P ops Q fuel (([i], S) :: ownL i oi l) (listed.setIfInBounds i true) (a.put oi.dst v) w → wpAnyD P ops Q (fuel + 1) l listed a w := by
  intro fuel
  induction fuel with
  | zero =>
    intro l listed a w _ hr hy hS hl H
    refine ⟨fun h => (by rw [h] at hr; cases hr), fun j hj => ?_⟩
    by_cases hji : j = i
    · subst hji
      refine hy.wpOp hi hS ⟨?_, H⟩
      simp only [Vc.dropAt, hi]
      exact HoldL.of fun p hp => hl.all p (mem_dropL.1 hp).1
    · have := ready_mono hj hji
      rw [H.1] at this
      cases this
  | succ fuel ih =>
    intro l listed a w hfree hr hy hS hl H
    refine ⟨fun h => (by rw [h] at hr; cases hr), fun j hj => ?_⟩
    by_cases hji : j = i
    · subst hji
      refine hy.wpOp hi hS ⟨?_, ?_⟩
      · simp only [Vc.dropAt, hi]
        exact HoldL.of fun p hp => hl.all p (mem_dropL.1 hp).1
      · refine wpAnyD_less _ _ _ _ _ _ ?_ H
        simp only [Vc.dropAt, hi]
        exact sub_own _ _ _ _
    · obtain ⟨hjun, oj, hoj, hall⟩ := mem_ready.1 hj
      have hnot : ∀ e ∈ oj.after, Region.binds .any e = true → e.on ≠ i := fun e he hb heq => by
        have h1 := hall e he hb
        have h0 := (mem_ready.1 hr).1
        rw [heq] at h1
        rcases Nat.lt_or_ge i listed.size with h' | h'
        · simp [h'] at h0 h1; rw [h0] at h1; cases h1
        · simp [Array.getElem?_eq_none h'] at h1
      have h1 := H.2 j (ready_mono hj hji)
      have hd : dropAt ops j (([i], S) :: ownL i oi l) = ([i], S) :: ownL i oi (dropAt ops j l) := by
        have h3 : after1 oj [i] = false := by rw [after1_cons hnot]; simp [after1]
        simp only [Vc.dropAt, hoj]
        show dropL oj (([i], S) :: ownL i oi l) = _
        rw [← drop_own hnot l, dropL]
        simp [h3]
      rw [hd] at h1
      have h2 := wpOp_putIf hoj (hfree j oj hoj hji hjun hnot) (fun cs b => hsel i oi cs b hi) (fun cs b => hsel j oj cs b hoj) hQ hy h1
      have hfree' : ∀ k ok, ops[k]? = some ok → k ≠ i → (listed.setIfInBounds j true).getD k true = false →
          (∀ e ∈ ok.after, Region.binds .any e = true → e.on ≠ i) → oi.apart ops ok = true := fun k ok hk hki hun hno => by
        refine hfree k ok hk hki ?_ hno
        by_cases hjk : j = k
        · subst hjk; exact hjun
        · rw [getD_set_ne true hjk] at hun; exact hun
      refine wpOp_mono (fun a' w' h3 => ?_) h2
      obtain ⟨hy', ⟨hS', hown⟩, hrest⟩ := h3
      have hl' : HoldL (dropAt ops j l) w' := by
        rw [ownL_map] at hown
        refine HoldL.of fun p hp => ?_
        have := hown.all _ (List.mem_map.2 ⟨p, hp, rfl⟩)
        unfold own1 at this
        split at this <;> exact this
      refine ⟨hl', ih _ (listed.setIfInBounds j true) a' w' hfree' (ready_mono hr (Ne.symm hji)) hy' hS' hl' ?_⟩
      rw [Array.setIfInBounds_comm _ _ hji]
      exact hrest
end
end Go.Vc
