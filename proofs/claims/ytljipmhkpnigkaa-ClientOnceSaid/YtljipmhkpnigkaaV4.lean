/- Verification conditions: drawn regions, code, whole functions. -/
import Derived.Test.YtljipmhkpnigkaaV3
namespace Go.Vc
section
variable (P : Program)

def findNon (ops : Array Oper) : List Nat → Option Nat
  | [] => none
  | i :: r => match ops[i]? with
    | some o => match nonEff P o with
      | true => some i
      | false => findNon ops r
    | none => findNon ops r
def pendOf (i : Nat) (o : Oper) (S : Option (World → Prop)) (l : Pend) : Pend := match S with
  | none => ownL i o l
  | some s => ([i], s) :: ownL i o l
def allOf (F : Nat → Prop) : List Nat → Prop
  | [] => True
  | [i] => F i
  | i :: r => F i ∧ allOf F r
def dropLK (o : Oper) : Pend → (Pend → Prop) → Prop
  | [], F => F []
  | p :: r, F => Ev (after1 o p.1) fun b => match b with
    | true => dropLK o r F
    | false => dropLK o r fun r' => F (p :: r')
def ownLK (i : Nat) (o : Oper) : Pend → (Pend → Prop) → Prop
  | [], F => F []
  | p :: r, F => Ev (after1 o p.1) fun b => match b with
    | true => ownLK i o r fun r' => F ((i :: p.1, p.2) :: r')
    | false => ownLK i o r fun r' => F (p :: r')
def pendK (i : Nat) (o : Oper) (S : Option (World → Prop)) (l : Pend) (F : Pend → Prop) : Prop := match S with
  | none => ownLK i o l F
  | some s => ownLK i o l fun l' => F (([i], s) :: l')
theorem dropLK_eq (o : Oper) : ∀ (l : Pend) (F : Pend → Prop), dropLK o l F = F (dropL o l)
  | [], F => rfl
  | p :: r, F => by
    simp only [dropLK, dropL, Ev]
    cases after1 o p.1 with
    | true => exact dropLK_eq o r F
    | false => exact dropLK_eq o r fun r' => F (p :: r')
theorem ownLK_eq (i : Nat) (o : Oper) : ∀ (l : Pend) (F : Pend → Prop), ownLK i o l F = F (ownL i o l)
  | [], F => rfl
  | p :: r, F => by
    simp only [ownLK, ownL, Ev]
    cases after1 o p.1 with
    | true => exact ownLK_eq i o r fun r' => F ((i :: p.1, p.2) :: r')
    | false => exact ownLK_eq i o r fun r' => F (p :: r')
theorem pendK_eq (i : Nat) (o : Oper) (S : Option (World → Prop)) (l : Pend) (F : Pend → Prop) : pendK i o S l F = F (pendOf i o S l) := by
  cases S <;> simp only [pendK, pendOf, ownLK_eq]
def HoldA : Pend → World → Prop → Prop
  | [], _, X => X
  | p :: r, w, X => p.2 w ∧ HoldA r w X
theorem HoldA_eq : ∀ (l : Pend) (w : World) (X : Prop), HoldA l w X = (HoldL l w ∧ X)
  | [], _, X => by simp [HoldA, HoldL]
  | p :: r, w, X => by simp only [HoldA, HoldL, HoldA_eq r w X, and_assoc]
def vcAny (n : Nat) (ops : Array Oper) : Nat → Pend → Array Bool → Env → World → (Env → World → Prop) → Prop
  | 0, _, listed, e, w, K => Ev (Region.ready .any ops listed) fun r => match r with
    | [] => K e w
    | _ => False
  | fuel + 1, l, listed, e, w, K => Ev (Region.ready .any ops listed) fun r => match r with
    | [] => K e w
    | _ => Ev (findNon P ops r) fun f => match f with
      | some i => Ev (listed.setIfInBounds i true) fun listed' => match ops[i]? with
        | none => False
        | some o => Need (Region.free .any ops listed i) (vcGuard ops o e
            (fun e => opFits n o e (vcNon P o (evD e) w fun v S => pendK i o S l fun l => Ev (put e o.dst v) fun e => vcAny n ops fuel l listed' e w K))
            (fun e => Need (fitsDst n o.dst) (ownLK i o l fun l => Ev (put e o.dst undef) fun e => vcAny n ops fuel l listed' e w K)))
      | none => allOf (fun i => Ev (listed.setIfInBounds i true) fun listed' => match ops[i]? with
          | none => False
          | some o => dropLK o l fun l => vcGuard ops o e
            (fun e => opFits n o e (vcEff P o (evD e) w fun v w' => HoldA l w' (Ev (put e o.dst v) fun e => vcAny n ops fuel l listed' e w' K)))
            (fun e => Need (fitsDst n o.dst) (Ev (put e o.dst undef) fun e => vcAny n ops fuel l listed' e w K))) r
variable {P}

theorem allOf_spec {F : Nat → Prop} : ∀ {l : List Nat}, allOf F l → ∀ i ∈ l, F i
  | [i], h, j, hj => by
    have : j = i := by simpa using hj
    subst this; exact h
  | i :: k :: r, h, j, hj => by
    rcases List.mem_cons.1 hj with rfl | hj
    · exact h.1
    · exact allOf_spec h.2 j hj
theorem findNon_mem {ops : Array Oper} {i : Nat} : ∀ {l : List Nat}, findNon P ops l = some i → i ∈ l
  | k :: r, h => by
    unfold findNon at h
    split at h
    · split at h
      · simp at h; subst h; exact List.mem_cons_self
      · exact List.mem_cons_of_mem _ (findNon_mem h)
    · exact List.mem_cons_of_mem _ (findNon_mem h)

def Keep (l : Pend) : Prop := ∀ p ∈ l, ∀ w n, p.2 w → p.2 (World.drewN w n)
theorem Keep.own {l : Pend} (h : Keep l) (i : Nat) (o : Oper) : Keep (ownL i o l) := by
  intro p hp
  rw [ownL_map] at hp
  obtain ⟨q, hq, rfl⟩ := List.mem_map.1 hp
  unfold own1
  split <;> exact h q hq
theorem HoldL.own {l : Pend} {w : World} (h : HoldL l w) (i : Nat) (o : Oper) : HoldL (ownL i o l) w := by
  refine HoldL.of fun p hp => ?_
  rw [ownL_map] at hp
  obtain ⟨q, hq, rfl⟩ := List.mem_map.1 hp
  unfold own1
  split <;> exact h.all q hq
theorem Keep.drop {l : Pend} (h : Keep l) (o : Oper) : Keep (dropL o l) := fun p hp => h p (mem_dropL.1 hp).1
theorem HoldL.drop {l : Pend} {w : World} (h : HoldL l w) (o : Oper) : HoldL (dropL o l) w := HoldL.of fun p hp => h.all p (mem_dropL.1 hp).1
theorem HoldL.drewN {l : Pend} {w : World} (hk : Keep l) (h : HoldL l w) (n : Nat) : HoldL l (w.drewN n) := HoldL.of fun p hp => hk p hp w n (h.all p hp)

theorem vcAny_spec {n : Nat} {ops : Array Oper} {W : Nat → Prop} {a₀ : Act} {K : Exit → Env → World → Prop} (hs : Region.noSelect ops = true) (hW : ∀ (i : Nat) (o : Oper), ops[i]? = some o → ∀ d, o.dst = some d → W d) : ∀ (fuel : Nat) (l : Pend) (listed : Array Bool) (e : Env) (w : World),
    vcAny P n ops fuel l listed e w (K .normal) → ∀ (a : Act) (m : Nat), Rep n e a → HoldL l w → Keep l → Same W a₀ a → wpAnyD P ops (Up n W a₀ K) fuel l listed a (w.drewN m)
  | 0, l, listed, e, w, h, a, m, hr, hl, hk, hf => by
    simp only [vcAny, Ev] at h
    split at h
    · rename_i hrd; exact ⟨hrd, hf, e, m, w, hr, rfl, h⟩
    · exact h.elim
  | fuel + 1, l, listed, e, w, h, a, m, hr, hl, hk, hf => by
    have IH := vcAny_spec (n := n) (a₀ := a₀) (K := K) hs hW fuel
    simp only [vcAny, Ev, dropLK_eq, ownLK_eq, pendK_eq, HoldA_eq] at h
    split at h
    · rename_i hrd
      exact ⟨fun _ => ⟨hf, e, m, w, hr, rfl, h⟩, fun i hi => by rw [hrd] at hi; cases hi⟩
    · split at h
      · rename_i i hfn
        have hmem := findNon_mem hfn
        split at h
        · exact h.elim
        · rename_i o ho
          obtain ⟨hfree, h⟩ := Need.spec h
          obtain ⟨e', hr', h⟩ := vcGuard_spec h hr
          have hsel := Region.noSelect_spec hs
          rcases h with ⟨hw, h⟩ | ⟨hw, h⟩
          · obtain ⟨h1, h2, h⟩ := opFits_spec h
            obtain ⟨v, S, hK, hS, hI, hrun⟩ := vcNon_spec h
            have he := exec_same hr' h2 (fun cs b => hsel i o cs b ho)
            refine wpAnyD_first (S := SOk S) ho hsel (fun _ _ _ hq => hq) fuel l listed a (w.drewN m) (Region.free_spec ho hfree) hmem
              (.inl ⟨hw, fun w' hw' => by rw [he]; exact hrun w' hw'⟩) (hI _ m hS) (hl.drewN hk m) ?_
            cases S with
            | none =>
              refine wpAnyD_more _ _ _ _ _ _ ?_ (IH _ _ _ _ hK _ m (hr'.put h1 v) (hl.own i o) (hk.own i o) (hf.put (hW i o ho) v))
              intro p hp
              rcases List.mem_cons.1 hp with rfl | hp
              · exact .inl fun _ => trivial
              · exact .inr hp
            | some s =>
              refine IH _ _ _ _ hK _ m (hr'.put h1 v) ⟨hS, hl.own i o⟩ ?_ (hf.put (hW i o ho) v)
              intro p hp
              rcases List.mem_cons.1 hp with rfl | hp
              · exact hI
              · exact hk.own i o p hp
          · obtain ⟨h1, h⟩ := Need.spec h
            refine wpAnyD_first (S := fun _ => True) ho hsel (fun _ _ _ hq => hq) fuel l listed a (w.drewN m) (Region.free_spec ho hfree) hmem
              (.inr ⟨hw, rfl⟩) trivial (hl.drewN hk m) ?_
            refine wpAnyD_more _ _ _ _ _ _ ?_ (IH _ _ _ _ h _ m (hr'.put h1 undef) (hl.own i o) (hk.own i o) (hf.put (hW i o ho) undef))
            intro p hp
            rcases List.mem_cons.1 hp with rfl | hp
            · exact .inl fun _ => trivial
            · exact .inr hp
      · rename_i hne _ _
        refine ⟨fun hz => absurd hz (by intro hz; exact hne hz), fun i hi => ?_⟩
        have h := allOf_spec h i hi
        split at h
        · exact h.elim
        · rename_i o ho
          obtain ⟨e', hr', h⟩ := vcGuard_spec h hr
          unfold wpOp
          simp only [ho, Vc.dropAt]
          rcases h with ⟨hw, h⟩ | ⟨hw, h⟩
          · rw [if_pos hw]
            obtain ⟨h1, h2, h⟩ := opFits_spec h
            refine .inl (Oper.wp_mono ?_ (vcEff_spec h (exec_same hr' h2 (fun cs b => Region.noSelect_spec hs i o cs b ho)) m _))
            rintro a' w' ⟨v, m', w'', rfl, rfl, hH, hK⟩
            exact ⟨hH.drewN (hk.drop o) m', IH _ _ _ _ hK _ m' (hr'.put h1 v) hH (hk.drop o) (hf.put (hW i o ho) v)⟩
          · rw [if_neg (by simp [hw])]
            obtain ⟨h1, h⟩ := Need.spec h
            exact ⟨(hl.drop o).drewN (hk.drop o) m, IH _ _ _ _ h _ m (hr'.put h1 undef) (hl.drop o) (hk.drop o) (hf.put (hW i o ho) undef)⟩

/- Shapes of values, and code -/
def kindEq (k : IntKind) (v : Value) : Bool := match v with
  | .int k' _ => decide (k' = k)
  | _ => false
def shapeCell (P : Program) (t : TypeId) (v : Value) : Bool := match P.underlying t with
  | some (.int k) => kindEq k v
  | some .bool => match v with
    | .bool _ => true
    | _ => false
  | some .string => match v with
    | .string _ => true
    | _ => false
  | some (.pointer _) => match v with
    | .pointer _ => true
    | _ => false
  | some (.slice _) => match v with
    | .slice _ _ _ => true
    | _ => false
  | some (.map _ _) => match v with
    | .map _ => true
    | _ => false
  | _ => true
def shapeCells (P : Program) : List TypeId → List Value → Bool
  | [], [] => true
  | t :: r, v :: s => match shapeCell P t v with
    | true => shapeCells P r s
    | false => false
  | _, _ => false
def shapeVar (P : Program) (t : TypeId) (v : Value) : Bool := match isAggT P t with
  | true => match v with
    | .agg ⟨cs⟩ => shapeCells P (cellTys P 1000 t) cs
    | _ => false
  | false => shapeCell P t v
def shapeVars (P : Program) : List TypeId → List Value → Bool
  | [], [] => true
  | t :: r, v :: s => match shapeVar P t v with
    | true => shapeVars P r s
    | false => false
  | _, _ => false

theorem allCell_spec {t : TypeId} {F : Value → Prop} {v : Value} (h : allCell P t F) (hv : shapeCell P t v = true) : F v := by
  unfold allCell at h
  unfold shapeCell at hv
  split at h <;> rename_i hu <;> simp only [hu] at hv
  · rename_i k
    cases v <;> simp [kindEq] at hv
    subst hv; exact h _
  all_goals first
    | (cases v <;> simp at hv <;> first | exact h _ | exact h _ _ _)
    | exact h _
theorem allCells_spec : ∀ {l : List TypeId} {F : List Value → Prop} {vs : List Value}, allCells P l F → shapeCells P l vs = true → F vs
  | [], _, [], h, _ => h
  | t :: r, F, v :: s, h, hv => by
    unfold shapeCells at hv
    cases hb : shapeCell P t v with
    | false => rw [hb] at hv; cases hv
    | true =>
      rw [hb] at hv
      have h := allCell_spec h hb
      exact allCells_spec (l := r) (F := fun vs => F (v :: vs)) h hv
  | [], _, _ :: _, _, hv => by cases hv
  | _ :: _, _, [], _, hv => by cases hv
theorem allVar_spec {t : TypeId} {F : Value → Prop} {v : Value} (h : allVar P t F) (hv : shapeVar P t v = true) : F v := by
  unfold allVar at h
  unfold shapeVar at hv
  split at h <;> rename_i hb <;> simp only [hb] at hv
  · cases v <;> try (cases hv)
    rename_i cs
    obtain ⟨cs⟩ := cs
    exact allCells_spec h hv
  · exact allCell_spec h hv
theorem allVars_spec : ∀ {l : List TypeId} {F : List Value → Prop} {vs : List Value}, allVars P l F → shapeVars P l vs = true → F vs
  | [], _, [], h, _ => h
  | t :: r, F, v :: s, h, hv => by
    unfold shapeVars at hv
    cases hb : shapeVar P t v with
    | false => rw [hb] at hv; cases hv
    | true =>
      rw [hb] at hv
      have h := allVar_spec h hb
      exact allVars_spec (l := r) (F := fun vs => F (v :: vs)) h hv
  | [], _, _ :: _, _, hv => by cases hv
  | _ :: _, _, [], _, hv => by cases hv

abbrev Slots := List (Nat × TypeId)
def hasSlot : Slots → Nat → Bool
  | [], _ => false
  | (s, _) :: r, t => match Nat.beq s t with
    | true => true
    | false => hasSlot r t
def addSlots : Slots → Slots → Slots
  | [], l => l
  | (s, t) :: r, l => match hasSlot l s with
    | true => addSlots r l
    | false => addSlots r (l ++ [(s, t)])
def asgOps : List Oper → Slots
  | [] => []
  | o :: r => match o.op with
    | .assign _ => match o.dst with
      | some d => (d, o.type) :: asgOps r
      | none => asgOps r
    | .move _ => match o.dst with
      | some d => (d, o.type) :: asgOps r
      | none => asgOps r
    | _ => asgOps r
/-- The slots of variables that code sets, each once. -/
def asg : Code → Slots → Slots
  | .region _ ops _, l => addSlots (asgOps ops.toList) l
  | .seq x y, l => asg y (asg x l)
  | .cond _ x y, l => asg y (asg x l)
  | .block _ c, l => asg c l
  | .loop c, l => asg c l
  | _, l => l
def dstOps : List Oper → List Nat → List Nat
  | [], l => l
  | o :: r, l => match o.dst with
    | some d => dstOps r (d :: l)
    | none => dstOps r l
def dsts : Code → List Nat → List Nat
  | .region _ ops _, l => dstOps ops.toList l
  | .seq x y, l => dsts y (dsts x l)
  | .cond _ x y, l => dsts y (dsts x l)
  | .block _ c, l => dsts c l
  | .loop c, l => dsts c l
  | _, l => l
def memN : List Nat → Nat → Bool
  | [], _ => false
  | s :: r, t => match Nat.beq s t with
    | true => true
    | false => memN r t
def dropE (ws : List Nat) : Env → Env
  | [] => []
  | (s, v) :: r => match memN ws s with
    | true => dropE ws r
    | false => (s, v) :: dropE ws r
def live (e : Env) : Slots → Slots
  | [] => []
  | (s, t) :: r => match get e s with
    | some _ => (s, t) :: live e r
    | none => live e r
def vals (e : Env) : Slots → Option (List Value)
  | [] => some []
  | (s, _) :: r => match get e s with
    | some v => match vals e r with
      | some vs => some (v :: vs)
      | none => none
    | none => none
def tys : Slots → List TypeId
  | [] => []
  | (_, t) :: r => t :: tys r
def bindE : Slots → List Value → Env → Env
  | (s, _) :: r, v :: vs, e => (s, v) :: bindE r vs e
  | _, _, e => e
/-- the values of these slots, of the right shape, handed on -/
def withVals (P : Program) (e : Env) (l : Slots) (F : List Value → Prop) : Prop := match vals e l with
  | some vs => Need (shapeVars P (tys l) vs) (F vs)
  | none => False
theorem withVals_spec {e : Env} {l : Slots} {F : List Value → Prop} (h : withVals P e l F) : ∃ vs, vals e l = some vs ∧ shapeVars P (tys l) vs = true ∧ F vs := by
  unfold withVals at h
  split at h
  · rename_i vs hv
    obtain ⟨h1, h2⟩ := Need.spec h
    exact ⟨vs, hv, h1, h2⟩
  · exact h.elim

def firstRegion : Code → Nat
  | .region id _ _ => id
  | .seq x _ => firstRegion x
  | .block _ c => firstRegion c
  | .loop c => firstRegion c
  | .cond _ x _ => firstRegion x
  | _ => 0

variable (P)
def vc (n : Nat) (cuts : List Nat) : Code → (Exit → Env → World → Prop) → Env → World → Prop
  | .skip, K, e, w => K .normal e w
  | .region _ ops draw, K, e, w => Need (Region.noSelect ops) (match draw with
    | true => Ev ops.size fun fuel => Ev (Array.replicate ops.size false) fun listed => vcAny P n ops fuel [] listed e w (K .normal)
    | false => vcList P n ops ops.toList e w (K .normal))
  | .seq x y, K, e, w => match memN cuts (firstRegion y) with
    | true => Ev (asg x []) fun as => Ev (dsts x []) fun ds => Ev (live e as) fun lv => ∃ J : List Value → World → Prop,
        vc n cuts x (fun X e' w' => match X with
          | .normal => withVals P e' lv fun vs => J vs w'
          | X => K X e' w') e w ∧
        allVars P (tys lv) fun vs => ∀ w', J vs w' → Ev (bindE lv vs (dropE ds e)) fun e => vc n cuts y K e w'
    | false => vc n cuts x (fun X e' w' => match X with
        | .normal => vc n cuts y K e' w'
        | X => K X e' w') e w
  | .cond c x y, K, e, w => match ev e c with
    | some (.bool b) => Br b (vc n cuts x K e w) (vc n cuts y K e w)
    | _ => False
  | .block id c, K, e, w => vc n cuts c (fun X e' w' => match X with
      | .exit id' => match Nat.beq id' id with
        | true => K .normal e' w'
        | false => K (.exit id') e' w'
      | X => K X e' w') e w
  | .loop c, K, e, w => Ev (asg c []) fun as => Ev (dsts c []) fun ds => Ev (live e as) fun lv => ∃ I : Nat → List Value → World → Prop,
      (withVals P e lv fun vs => ∃ k, I k vs w) ∧
      allVars P (tys lv) fun vs => ∀ k w', I k vs w' → Ev (bindE lv vs (dropE ds e)) fun e => vc n cuts c (fun X e' w' => match X with
        | .normal => withVals P e' lv fun vs => ∃ k', k' < k ∧ I k' vs w'
        | X => K X e' w') e w'
  | .exit id, K, e, w => K (.exit id) e w
  | .ret, K, e, w => K .ret e w
  | _, _, _, _ => False
variable {P}

theorem memN_mem {l : List Nat} {t : Nat} : memN l t = true ↔ t ∈ l := by
  induction l with
  | nil => simp [memN]
  | cons s r ih =>
    unfold memN
    by_cases h : s = t
    · subst h; simp
    · have : Nat.beq s t = false := by
        cases hb : Nat.beq s t with
        | false => rfl
        | true => exact absurd (Nat.eq_of_beq_eq_true hb) h
      simp only [this, ih, List.mem_cons]
      constructor
      · exact .inr
      · rintro (rfl | h')
        · exact absurd rfl h
        · exact h'
theorem mem_dstOps {d : Nat} : ∀ {ops : List Oper} {l : List Nat}, d ∈ dstOps ops l ↔ d ∈ l ∨ ∃ o ∈ ops, o.dst = some d
  | [], l => by simp [dstOps]
  | o :: r, l => by
    unfold dstOps
    split
    · rename_i d' hd'
      rw [mem_dstOps]
      simp only [List.mem_cons, exists_eq_or_imp, hd', Option.some.injEq]
      constructor
      · rintro ((rfl | h) | h)
        · exact .inr (.inl rfl)
        · exact .inl h
        · exact .inr (.inr h)
      · rintro (h | rfl | h)
        · exact .inl (.inr h)
        · exact .inl (.inl rfl)
        · exact .inr h
    · rename_i hd'
      rw [mem_dstOps]
      simp [hd']
theorem mem_dsts {d : Nat} : ∀ {c : Code} {l : List Nat}, d ∈ dsts c l ↔ d ∈ l ∨ d ∈ dsts c []
  | .region _ ops _, l => by simp [dsts, mem_dstOps]
  | .seq x y, l => by
    unfold dsts
    rw [mem_dsts (c := y), mem_dsts (c := x), mem_dsts (c := y) (l := dsts x [])]
    simp [or_assoc]
  | .cond _ x y, l => by
    unfold dsts
    rw [mem_dsts (c := y), mem_dsts (c := x), mem_dsts (c := y) (l := dsts x [])]
    simp [or_assoc]
  | .block _ c, l => by unfold dsts; exact mem_dsts
  | .loop c, l => by unfold dsts; exact mem_dsts
  | .skip, _ => by simp [dsts]
  | .rangeFunc .., _ => by simp [dsts]
  | .exit _, _ => by simp [dsts]
  | .scope _, _ => by simp [dsts]
  | .label _, _ => by simp [dsts]
  | .goto _, _ => by simp [dsts]
  | .ret, _ => by simp [dsts]
  | .refuse _, _ => by simp [dsts]
def InD (c : Code) (t : Nat) : Prop := t ∈ dsts c []

theorem Same.mono {W W' : Nat → Prop} {a b : Act} (h : Same W a b) (hw : ∀ t, W t → W' t) : Same W' a b := fun t ht => h t fun h' => ht (hw t h')
theorem Same.trans {W : Nat → Prop} {a b c : Act} (h : Same W a b) (k : Same W b c) : Same W a c := fun t ht => (k t ht).trans (h t ht)

theorem get_dropE {ws : List Nat} {t : Nat} {v : Value} : ∀ {e : Env}, get (dropE ws e) t = some v → memN ws t = false ∧ get e t = some v
  | [], h => by cases h
  | (s, u) :: r, h => by
    unfold dropE at h
    cases hs : memN ws s with
    | true =>
      rw [hs] at h
      obtain ⟨h1, h2⟩ := get_dropE h
      refine ⟨h1, ?_⟩
      have : s ≠ t := by rintro rfl; rw [hs] at h1; cases h1
      rw [get_cons_ne _ _ this]; exact h2
    | false =>
      rw [hs] at h
      by_cases hst : s = t
      · subst hst
        rw [get_cons_self] at h ⊢
        exact ⟨hs, h⟩
      · rw [get_cons_ne _ _ hst] at h ⊢
        exact get_dropE h
theorem get_bindE {t : Nat} {v : Value} {e : Env} : ∀ {l : Slots} {vs : List Value} {e' : Env}, vals e' l = some vs → get (bindE l vs e) t = some v → get e' t = some v ∨ get e t = some v
  | [], vs, e', _, h => .inr (by cases vs <;> exact h)
  | (s, ty) :: r, vs, e', hv, h => by
    unfold vals at hv
    split at hv
    · rename_i u hu
      split at hv
      · rename_i us hus
        simp at hv; subst hv
        simp only [bindE] at h
        by_cases hst : s = t
        · subst hst
          rw [get_cons_self] at h
          exact .inl (by rw [hu]; exact h)
        · rw [get_cons_ne _ _ hst] at h
          exact get_bindE hus h
      · cases hv
    · cases hv
theorem rep_bind {n : Nat} {e e' : Env} {a b : Act} {c : Code} {l : Slots} {vs : List Value} (hr : Rep n e a) (hr' : Rep n e' b) (hv : vals e' l = some vs) (hf : Same (InD c) a b) :
    Rep n (bindE l vs (dropE (dsts c []) e)) b := by
  refine ⟨hr'.size, hr'.defers, fun t v h => ?_⟩
  rcases get_bindE hv h with h | h
  · exact hr'.at_ t v h
  · obtain ⟨h1, h2⟩ := get_dropE h
    rw [hf t (fun h3 => by rw [memN_mem.2 h3] at h1; cases h1)]
    exact hr.at_ t v h2

theorem Up.mono {n : Nat} {W W' : Nat → Prop} {a₀ a₁ : Act} {K K' : Exit → Env → World → Prop} {x : Exit} {a : Act} {w : World} (h : Up n W a₁ K x a w) (hs : Same W' a₀ a₁) (hw : ∀ t, W t → W' t)
    (hk : ∀ e w', K x e w' → K' x e w') : Up n W' a₀ K' x a w := by
  cases x <;> first
    | exact h
    | (obtain ⟨h1, e, m, w', h2, h3, h4⟩ := h
       exact ⟨hs.trans (h1.mono hw), e, m, w', h2, h3, hk _ _ h4⟩)

theorem vc_spec (hm : P.follows .mixedOrders = true) {n : Nat} {cuts : List Nat} : ∀ (c : Code) (K : Exit → Env → World → Prop) (e : Env) (w : World), vc P n cuts c K e w →
    ∀ (a : Act) (m : Nat), Rep n e a → c.wp P (Up n (InD c) a K) a (w.drewN m)
  | .skip, K, e, w, h, a, m, hr => wp_skip ⟨Same.refl _ _, e, m, w, hr, rfl, h⟩
  | .region id ops draw, K, e, w, h, a, m, hr => by
    unfold vc at h
    obtain ⟨hs, h⟩ := Need.spec h
    cases draw with
    | true =>
      refine wp_region_any hm (wpAny_of_D _ [] _ _ _ ?_)
      refine vcAny_spec hs ?_ _ _ _ e w h a (m + 1) hr trivial (fun _ h => by cases h) (Same.refl _ _)
      intro i o ho d hd
      exact mem_dstOps.2 (.inr ⟨o, by simpa using Array.mem_of_getElem? ho, hd⟩)
    | false =>
      refine wp_region_list (vcList_spec ?_ ?_ _ (fun _ h => h) e w h a m hr (Same.refl _ _))
      · intro o ho
        obtain ⟨i, hi⟩ := List.mem_iff_getElem?.1 ho
        have hi' : ops[i]? = some o := by simpa using hi
        have := Region.noSelect_spec hs i o
        unfold noSel
        split
        · rename_i cs b hsel
          exact absurd hsel (this cs b hi')
        · rfl
      · intro o ho d hd
        exact mem_dstOps.2 (.inr ⟨o, ho, hd⟩)
  | .seq x y, K, e, w, h, a, m, hr => by
    have hx : ∀ t, InD x t → InD (.seq x y) t := fun t ht => (mem_dsts (c := y) (l := dsts x [])).2 (.inl ht)
    have hy : ∀ t, InD y t → InD (.seq x y) t := fun t ht => (mem_dsts (c := y) (l := dsts x [])).2 (.inr ht)
    unfold vc at h
    refine wp_seq ?_
    split at h
    · obtain ⟨J, hJ, hall⟩ := h
      refine wp_mono (vc_spec hm x _ e w hJ a m hr) fun X a' w' hq => ?_
      cases X with
      | normal =>
        obtain ⟨hf, e', m', w'', hr', rfl, hq⟩ := hq
        obtain ⟨vs, hv, hsh, hJ'⟩ := withVals_spec hq
        have hrest := allVars_spec hall hsh w'' hJ'
        exact wp_mono (vc_spec hm y _ _ _ hrest a' m' (rep_bind hr hr' hv hf)) fun X _ _ h' => h'.mono (hf.mono hx) hy fun _ _ h => h
      | panic c => exact hq
      | outgrown => exact hq
      | exit id => exact hq.mono (Same.refl _ _) hx fun _ _ h => h
      | goto l => exact hq.mono (Same.refl _ _) hx fun _ _ h => h
      | ret => exact hq.mono (Same.refl _ _) hx fun _ _ h => h
    · refine wp_mono (vc_spec hm x _ e w h a m hr) fun X a' w' hq => ?_
      cases X with
      | normal =>
        obtain ⟨hf, e', m', w'', hr', rfl, hq⟩ := hq
        exact wp_mono (vc_spec hm y _ _ _ hq a' m' hr') fun X _ _ h' => h'.mono (hf.mono hx) hy fun _ _ h => h
      | panic c => exact hq
      | outgrown => exact hq
      | exit id => exact hq.mono (Same.refl _ _) hx fun _ _ h => h
      | goto l => exact hq.mono (Same.refl _ _) hx fun _ _ h => h
      | ret => exact hq.mono (Same.refl _ _) hx fun _ _ h => h
  | .cond c x y, K, e, w, h, a, m, hr => by
    have hx : ∀ t, InD x t → InD (.cond c x y) t := fun t ht => (mem_dsts (c := y) (l := dsts x [])).2 (.inl ht)
    have hy : ∀ t, InD y t → InD (.cond c x y) t := fun t ht => (mem_dsts (c := y) (l := dsts x [])).2 (.inr ht)
    unfold vc at h
    split at h
    · rename_i b hb
      have hc := hr.ev hb
      rcases Br.spec h with ⟨rfl, h⟩ | ⟨rfl, h⟩
      · exact wp_cond_true hc (wp_mono (vc_spec hm x _ e w h a m hr) fun X a' w' h' => h'.mono (Same.refl _ _) hx fun _ _ h => h)
      · exact wp_cond_false hc (wp_mono (vc_spec hm y _ e w h a m hr) fun X a' w' h' => h'.mono (Same.refl _ _) hy fun _ _ h => h)
    · exact h.elim
  | .block id c, K, e, w, h, a, m, hr => by
    unfold vc at h
    refine wp_block (wp_mono (vc_spec hm c _ e w h a m hr) fun X a' w' hq => ?_)
    have hx : ∀ t, InD c t → InD (.block id c) t := fun t ht => ht
    cases X with
    | exit id' =>
      obtain ⟨hf, e', m', w'', hr', rfl, hq⟩ := hq
      show (if id' = id then _ else _)
      dsimp only at hq
      split at hq
      · rename_i hb
        rw [if_pos (Nat.eq_of_beq_eq_true hb)]
        exact ⟨hf.mono hx, e', m', w'', hr', rfl, hq⟩
      · rename_i hb
        rw [if_neg (by rintro rfl; simp at hb)]
        exact ⟨hf.mono hx, e', m', w'', hr', rfl, hq⟩
    | normal => exact hq.mono (Same.refl _ _) hx fun _ _ h => h
    | panic c => exact hq
    | outgrown => exact hq
    | goto l => exact hq.mono (Same.refl _ _) hx fun _ _ h => h
    | ret => exact hq.mono (Same.refl _ _) hx fun _ _ h => h
  | .loop c, K, e, w, h, a, m, hr => by
    have hx : ∀ t, InD c t → InD (.loop c) t := fun t ht => ht
    unfold vc at h
    obtain ⟨I, h0, hall⟩ := h
    obtain ⟨vs, hv, hsh, k, hI⟩ := withVals_spec h0
    refine wp_loop_ghost (fun k a₁ w₁ => Same (InD (.loop c)) a a₁ ∧ ∃ vs w' m', Rep n (bindE (live e (asg c [])) vs (dropE (dsts c []) e)) a₁ ∧ w₁ = World.drewN w' m' ∧ shapeVars P (tys (live e (asg c []))) vs = true ∧ I k vs w')
      k ⟨Same.refl _ _, vs, w, m, rep_bind hr hr hv (Same.refl _ _), rfl, hsh, hI⟩ ?_
    rintro k a₁ w₁ ⟨hf, vs, w', m', hr₁, rfl, hsh, hI⟩
    refine wp_mono (vc_spec hm c _ _ _ (allVars_spec hall hsh k w' hI) a₁ m' hr₁) fun X a' w'' hq => ?_
    cases X with
    | normal =>
      obtain ⟨hf', e', m'', w3, hr', rfl, hq⟩ := hq
      obtain ⟨vs', hv', hsh', k', hk', hI'⟩ := withVals_spec hq
      have hf2 := hf.trans (hf'.mono hx)
      exact ⟨k', hk', hf2, vs', w3, m'', rep_bind hr hr' hv' hf2, rfl, hsh', hI'⟩
    | panic c => exact hq
    | outgrown => exact hq
    | exit id => exact hq.mono hf hx fun _ _ h => h
    | goto l => exact hq.mono hf hx fun _ _ h => h
    | ret => exact hq.mono hf hx fun _ _ h => h
  | .exit id, K, e, w, h, a, m, hr => wp_exit ⟨Same.refl _ _, e, m, w, hr, rfl, h⟩
  | .ret, K, e, w, h, a, m, hr => wp_ret ⟨Same.refl _ _, e, m, w, hr, rfl, h⟩
  | .rangeFunc .., _, _, _, h, _, _, _ => h.elim
  | .scope _, _, _, _, h, _, _, _ => h.elim
  | .label _, _, _, _, h, _, _, _ => h.elim
  | .goto _, _, _, _, h, _, _, _ => h.elim
  | .refuse _, _, _, _, h, _, _, _ => h.elim

/- A whole function -/
def resVals (P : Program) : List ResultVar → Env → World → (List Value → Prop) → Prop
  | [], _, _, F => F []
  | .tmp t :: r, e, w, F => match get e t with
    | some v => resVals P r e w fun vs => F (v :: vs)
    | none => False
  | .cell s t :: r, e, w, F => match get e s with
    | some (.pointer p) => NilOk p fun a => Need (hasT P t) <| match isAggT P t with
      | true => Ev (cellTys P 1000 t) fun ts => exCells P ts fun cs => Need (Nat.beq cs.length (sizeT P t)) (Row w a 0 cs ∧ resVals P r e w fun vs => F (.agg ⟨cs⟩ :: vs))
      | false => exCell P t fun v => w.cell? a = some v ∧ resVals P r e w fun vs => F (v :: vs)
    | _ => False
def oneOf : List Value → Value
  | [v] => v
  | vs => .tuple ⟨vs⟩
def retK (P : Program) (fn : Func) (R : Ending → World → Prop) : Exit → Env → World → Prop
  | .normal, e, w => resVals P fn.results.toList e w fun vs => R (.returned (oneOf vs)) w
  | .ret, e, w => resVals P fn.results.toList e w fun vs => R (.returned (oneOf vs)) w
  | _, _, _ => False
def envOf : Nat → List Value → Env
  | _, [] => []
  | i, v :: r => (i, v) :: envOf (i + 1) r
def fvc (P : Program) (cuts : List Nat) (fn : Func) (c : Code) (args : List Value) (w : World) (R : Ending → World → Prop) : Prop :=
  Need (Nat.ble args.length fn.ntmps) (Ev fn.ntmps fun n => Ev (envOf 0 args) fun e => vc P n cuts c (retK P fn R) e w)

def resV (tmps : Array Value) : ResultVar → Sem Value
  | .tmp t => pure (tmps.getD t undef)
  | .cell s t => do loadVar t (← asAddr (tmps.getD s undef))
theorem resVals_spec {n : Nat} {e : Env} {a : Act} {w : World} (hr : Rep n e a) : ∀ {l : List ResultVar} {F : List Value → Prop}, resVals P l e w F → ∀ m, ∃ vs, F vs ∧
    (l.mapM (resV a.tmps)).run P (w.drewN m) = .ok vs (w.drewN m)
  | [], F, h, m => ⟨[], h, by simp⟩
  | .tmp t :: r, F, h, m => by
    unfold resVals at h
    split at h
    · rename_i v hv
      obtain ⟨vs, hF, hrun⟩ := resVals_spec hr h m
      have hg : a.tmps.getD t undef = v := by simp [Array.getD_eq_getD_getElem?, hr.at_ t v hv]
      have h1 : (resV a.tmps (.tmp t)).run P (w.drewN m) = .ok v (w.drewN m) := by show (pure (a.tmps.getD t undef) : Sem Value).run P (w.drewN m) = _; rw [hg]; rfl
      exact ⟨_, hF, by simp only [List.mapM_cons, Sem.run_bind, h1, hrun, Result.andThen_ok, Sem.run_pure]⟩
    · exact h.elim
  | .cell s t :: r, F, h, m => by
    unfold resVals at h
    split at h
    · rename_i p hp
      obtain ⟨b, rfl, h⟩ := NilOk.spec h
      obtain ⟨hT, h⟩ := Need.spec h
      have hg : a.tmps.getD s undef = .pointer (some b) := by simp [Array.getD_eq_getD_getElem?, hr.at_ s _ hp]
      have key : ∀ v, (loadVar t b).run P (w.drewN m) = .ok v (w.drewN m) → (resV a.tmps (.cell s t)).run P (w.drewN m) = .ok v (w.drewN m) := by
        intro v hv
        show (do loadVar t (← asAddr (a.tmps.getD s undef)) : Sem Value).run P (w.drewN m) = _
        rw [hg]
        simp [asAddr, hv]
      split at h
      · rename_i hagg
        have h : exCells P (cellTys P 1000 t) fun cs => Need (Nat.beq cs.length (sizeT P t)) (Row w b 0 cs ∧ resVals P r e w fun vs => F (.agg ⟨cs⟩ :: vs)) := h
        obtain ⟨cs, h⟩ := exCells_spec h
        obtain ⟨hl, hrow, h⟩ := Need.spec h
        obtain ⟨vs, hF, hrun⟩ := resVals_spec hr h m
        have h1 := key _ (run_loadVar_row (P := P) hagg (Nat.eq_of_beq_eq_true hl) (hasT_info hT) (Row.drewN m hrow))
        exact ⟨_, hF, by simp only [List.mapM_cons, Sem.run_bind, h1, hrun, Result.andThen_ok, Sem.run_pure]⟩
      · rename_i hagg
        have h : exCell P t fun v => w.cell? b = some v ∧ resVals P r e w fun vs => F (v :: vs) := h
        obtain ⟨v, hc, h⟩ := exCell_spec h
        obtain ⟨vs, hF, hrun⟩ := resVals_spec hr h m
        have h1 := key _ (run_loadVar_cell (P := P) (w := w.drewN m) hagg (hasT_und hT) hc)
        exact ⟨_, hF, by simp only [List.mapM_cons, Sem.run_bind, h1, hrun, Result.andThen_ok, Sem.run_pure]⟩
    · exact h.elim

theorem results_spec {n : Nat} {e : Env} {a : Act} {w : World} {fn : Func} {F : List Value → Prop} (hr : Rep n e a) (h : resVals P fn.results.toList e w F) (m : Nat) :
    ∃ vs, F vs ∧ (results fn a.tmps).run P (w.drewN m) = .ok (oneOf vs) (w.drewN m) := by
  obtain ⟨vs, hF, hrun⟩ := resVals_spec hr h m
  refine ⟨vs, hF, ?_⟩
  have hm : (fn.results.mapM (resV a.tmps)).run P (w.drewN m) = .ok vs.toArray (w.drewN m) := by
    rw [← Array.toArray_toList (xs := fn.results), List.mapM_toArray]
    simp only [Sem.run_map, hrun, Result.andThen_ok]
  have he : results fn a.tmps = (do
      let vs ← fn.results.mapM (resV a.tmps)
      pure (if h : vs.size = 1 then vs[0] else .tuple vs)) := rfl
  rw [he]
  simp only [Sem.run_bind, hm, Result.andThen_ok, Sem.run_pure]
  match vs with
  | [] => rfl
  | [v] => rfl
  | _ :: _ :: _ => rfl

def bodyOf (fn : Func) : Code := match fn.body with
  | some c => c
  | none => .skip
theorem get_envOf {t : Nat} {v : Value} : ∀ {l : List Value} {i : Nat}, get (envOf i l) t = some v → i ≤ t ∧ l[t - i]? = some v
  | [], _, h => by cases h
  | u :: r, i, h => by
    simp only [envOf] at h
    by_cases hit : i = t
    · subst hit
      rw [get_cons_self] at h
      exact ⟨Nat.le_refl _, by simpa using h⟩
    · rw [get_cons_ne _ _ hit] at h
      obtain ⟨h1, h2⟩ := get_envOf h
      refine ⟨by omega, ?_⟩
      rw [show t - i = (t - (i + 1)) + 1 by omega]
      simpa using h2

/-- THE CONDITION SUFFICES. -/
theorem Ca.of_fvc (hm : P.follows .mixedOrders = true) {f : FuncId} {fn : Func} {c : Code} (hf : P.funcs[f]? = some fn) (hb : fn.body = some c) (cuts : List Nat) {args : List Value} {w : World} {R : Ending → World → Prop}
    (h : fvc P cuts fn c args w R) : Ca P f (List.toArray args) w R := by
  obtain ⟨hlen, h⟩ := Need.spec h
  have hlen : args.length ≤ fn.ntmps := Nat.le_of_ble_eq_true hlen
  refine .of fun n => ?_
  refine calls_of_wp hf hb ?_
  have hr : Rep fn.ntmps (envOf 0 args) { tmps := args.toArray ++ Array.replicate (fn.ntmps - args.toArray.size) undef, defers := [] } := by
    refine ⟨by simp; omega, rfl, fun t v ht => ?_⟩
    obtain ⟨_, h2⟩ := get_envOf ht
    have hlt : t < args.length := by
      rcases Nat.lt_or_ge t args.length with h' | h'
      · exact h'
      · simp [List.getElem?_eq_none h'] at h2
    rw [Array.getElem?_append_left (by simpa using hlt)]
    simpa using h2
  refine wp_mono (vc_spec hm c _ _ _ h _ n hr) fun X a w' hq => ?_
  cases X with
  | normal =>
    obtain ⟨_, e, m, w'', hr', rfl, hq⟩ := hq
    obtain ⟨vs, hR, hrun⟩ := results_spec hr' hq m
    exact ⟨hr'.defers, _, hrun, m, w'', rfl, hR⟩
  | ret =>
    obtain ⟨_, e, m, w'', hr', rfl, hq⟩ := hq
    obtain ⟨vs, hR, hrun⟩ := results_spec hr' hq m
    exact ⟨hr'.defers, _, hrun, m, w'', rfl, hR⟩
  | panic c => exact hq.elim
  | outgrown => exact hq.elim
  | exit id => obtain ⟨_, _, _, _, _, _, hq⟩ := hq; exact hq.elim
  | goto l => obtain ⟨_, _, _, _, _, _, hq⟩ := hq; exact hq.elim
end
end Go.Vc
