/- Verification conditions of a function's loaded code, reckoned by the kernel; and that they suffice. No program is named here. -/
import Derived.WalkKit
import Derived.Deep.Draws
import Derived.Deep.LoopGhost
import Derived.OrdersHeld
import Derived.Laws.StructEq
import Derived.ChangeKeysEq
namespace Go.Vc

/- Environments -/
abbrev Env := List (Nat × Value)
def get : Env → Nat → Option Value
  | [], _ => none
  | (s, v) :: r, t => match Nat.beq s t with
    | true => some v
    | false => get r t
def put (e : Env) : Option Tmp → Value → Env
  | none, _ => e
  | some d, v => (d, v) :: e
def ev (e : Env) : Operand → Option Value
  | .tmp t => get e t
  | .const v => some v
  | .global g => some (.pointer (some ⟨g, 0, none⟩))
  | .func f => some (.func (.func f) #[] #[])
def evD (e : Env) (x : Operand) : Value := match ev e x with
  | some v => v
  | none => undef
def knows (e : Env) (x : Operand) : Bool := match ev e x with
  | some _ => true
  | none => false
def knowsAll (e : Env) : List Operand → Bool
  | [] => true
  | x :: r => match knows e x with
    | true => knowsAll e r
    | false => false

structure Rep (n : Nat) (e : Env) (a : Act) : Prop where
  size : a.tmps.size = n
  defers : a.defers = []
  at_ : ∀ t v, get e t = some v → a.tmps[t]? = some v

theorem get_cons_self (s : Nat) (v : Value) (r : Env) : get ((s, v) :: r) s = some v := by simp [get]
theorem get_cons_ne {s t : Nat} (v : Value) (r : Env) (h : s ≠ t) : get ((s, v) :: r) t = get r t := by
  have : Nat.beq s t = false := by
    cases hb : Nat.beq s t with
    | false => rfl
    | true => exact absurd (Nat.eq_of_beq_eq_true hb) h
  simp [get, this]

def fitsDst (n : Nat) : Option Tmp → Bool
  | none => true
  | some d => Nat.blt d n

theorem Rep.put {n : Nat} {e : Env} {a : Act} (h : Rep n e a) {dst : Option Tmp} (hd : fitsDst n dst = true) (v : Value) : Rep n (put e dst v) (a.put dst v) := by
  cases dst with
  | none => exact h
  | some d =>
    have hlt : d < a.tmps.size := by rw [h.size]; exact Nat.le_of_ble_eq_true hd
    refine ⟨by simp [Act.put, h.size], by simp [Act.put, h.defers], fun t u hu => ?_⟩
    by_cases hdt : d = t
    · subst hdt
      have hu' : v = u := by simpa [Vc.put, get_cons_self] using hu
      subst hu'
      simp [Act.put, hlt]
    · have hu' : get e t = some u := by simpa [Vc.put, get_cons_ne _ _ hdt] using hu
      simp only [Act.put]
      rw [Array.getElem?_setIfInBounds_ne hdt]
      exact h.at_ t u hu'

theorem Rep.ev {n : Nat} {e : Env} {a : Act} (h : Rep n e a) {x : Operand} {v : Value} (hx : ev e x = some v) : a.eval x = v := by
  cases x with
  | tmp t =>
    have := h.at_ t v hx
    simp [Act.eval, Array.getD_eq_getD_getElem?, this]
  | const c => simpa [Vc.ev, Act.eval] using hx
  | global g => simpa [Vc.ev, Act.eval] using hx
  | func f => simpa [Vc.ev, Act.eval] using hx

theorem knowsAll_spec {e : Env} : ∀ {l : List Operand}, knowsAll e l = true → ∀ x ∈ l, ∃ v, ev e x = some v
  | [], _, x, hx => by cases hx
  | y :: r, h, x, hx => by
    unfold knowsAll at h
    cases hk : knows e y with
    | false => rw [hk] at h; cases h
    | true =>
      rw [hk] at h
      rcases List.mem_cons.1 hx with rfl | hx
      · unfold knows at hk
        cases hv : ev e x with
        | none => rw [hv] at hk; cases hk
        | some v => exact ⟨v, rfl⟩
      · exact knowsAll_spec h x hx

theorem Rep.evD {n : Nat} {e : Env} {a : Act} (h : Rep n e a) {l : List Operand} (hk : knowsAll e l = true) : ∀ x ∈ l, a.eval x = evD e x := by
  intro x hx
  obtain ⟨v, hv⟩ := knowsAll_spec hk x hx
  rw [h.ev hv]
  simp [Vc.evD, hv]

/- Small words -/
def Br (b : Bool) (x y : Prop) : Prop := match b with
  | true => x
  | false => y
theorem Br.intro {b : Bool} {x y : Prop} (h : b = true → x) (h' : b = false → y) : Br b x y := by
  cases b
  · exact h' rfl
  · exact h rfl
theorem Br.pos {b : Bool} {x y : Prop} (hb : b = true) (h : x) : Br b x y := by subst hb; exact h
theorem Br.neg {b : Bool} {x y : Prop} (hb : b = false) (h : y) : Br b x y := by subst hb; exact h
def NilOk (p : Option Addr) (F : Addr → Prop) : Prop := match p with
  | some a => F a
  | none => False
theorem NilOk.intro {p : Option Addr} {F : Addr → Prop} {a : Addr} (h : p = some a) (h' : F a) : NilOk p F := by subst h; exact h'

/-- what is reckoned out at once -/
def Ev {α : Type} (x : α) (F : α → Prop) : Prop := F x
def Need (b : Bool) (X : Prop) : Prop := match b with
  | true => X
  | false => False
theorem Need.spec {b : Bool} {X : Prop} (h : Need b X) : b = true ∧ X := by
  cases b
  · exact h.elim
  · exact ⟨rfl, h⟩
/-- Names for what would be written out again and again -/
inductive LetW (w : World) (F : World → Prop) : Prop where
  | of (h : F w)
  | never (h : False)
theorem LetW.out {w : World} {F : World → Prop} : LetW w F → F w
  | .of h => h
  | .never h => h.elim
theorem LetW.intro {w : World} {F : World → Prop} (h : ∀ w', w' = w → F w') : LetW w F := .of (h w rfl)
inductive LetA (o : Obj) (w : World) (F : Nat → World → Prop) : Prop where
  | of (h : F w.heap.size (w.alloc o))
  | never (h : False)
theorem LetA.out {o : Obj} {w : World} {F : Nat → World → Prop} : LetA o w F → F w.heap.size (w.alloc o)
  | .of h => h
  | .never h => h.elim
theorem LetA.intro {o : Obj} {w : World} {F : Nat → World → Prop} (h : ∀ b w', b = w.heap.size → w' = w.alloc o → F b w') : LetA o w F := .of (h _ _ rfl rfl)
inductive LetI (n : Int) (F : Int → Prop) : Prop where
  | of (h : F n)
  | never (h : False)
theorem LetI.out {n : Int} {F : Int → Prop} : LetI n F → F n
  | .of h => h
  | .never h => h.elim
theorem LetI.intro {n : Int} {F : Int → Prop} (h : ∀ m, m = n → F m) : LetI n F := .of (h n rfl)
theorem LetI.wrap {k : IntKind} {n : Int} {F : Int → Prop} (hn : k.wrap n = n) (h : F n) : LetI (k.wrap n) F := .of (by rw [hn]; exact h)
theorem NilOk_some (a : Addr) (F : Addr → Prop) : (match some a with | some a => F a | none => False) = F a := rfl

/-- The contract of a call, the count of draws left aside. -/
inductive Ca (P : Program) (f : FuncId) (args : Array Value) (w : World) (R : Ending → World → Prop) : Prop where
  | of (h : ∀ n, Calls P f args (w.drewN n) fun e w' => ∃ m w'', w' = w''.drewN m ∧ R e w'')
  | never (h : False)
theorem Ca.out {P : Program} {f : FuncId} {args : Array Value} {w : World} {R : Ending → World → Prop} : Ca P f args w R → ∀ n, Calls P f args (w.drewN n) fun e w' => ∃ m w'', w' = w''.drewN m ∧ R e w''
  | .of h => h
  | .never h => h.elim
theorem Ca.mono {P : Program} {f : FuncId} {args : Array Value} {w : World} {R R' : Ending → World → Prop} (h : Ca P f args w R) (hr : ∀ e w', R e w' → R' e w') : Ca P f args w R' :=
  .of fun n => (h.out n).mono fun _ _ ⟨m, w'', hw, hR⟩ => ⟨m, w'', hw, hr _ _ hR⟩
theorem Ca.calls {P : Program} {f : FuncId} {args : Array Value} {w : World} {R : Ending → World → Prop} (h : Ca P f args w R) : Calls P f args w fun e w' => ∃ m w'', w' = w''.drewN m ∧ R e w'' := h.out 0

inductive RunsV (P : Program) (s : Sem Value) (w : World) (K : Value → World → Prop) : Prop where
  | of (h : ∀ n, ∃ v m w', s.run P (w.drewN n) = .ok v (World.drewN w' m) ∧ K v w')
  | never (h : False)
theorem RunsV.out {P : Program} {s : Sem Value} {w : World} {K : Value → World → Prop} : RunsV P s w K → ∀ n, ∃ v m w', s.run P (w.drewN n) = .ok v (World.drewN w' m) ∧ K v w'
  | .of h => h
  | .never h => h.elim
/-- A call of a function without a Go body. -/
inductive RunsX (P : Program) (g : FuncId) (args : Array Value) (w : World) (K : Value → World → Prop) : Prop where
  | of (h : ∀ n, ∃ v m w', (callFunc g args).run P (w.drewN n) = .ok (.value v) (World.drewN w' m) ∧ K v w')
  | never (h : False)
theorem RunsX.out {P : Program} {g : FuncId} {args : Array Value} {w : World} {K : Value → World → Prop} : RunsX P g args w K → ∀ n, ∃ v m w', (callFunc g args).run P (w.drewN n) = .ok (.value v) (World.drewN w' m) ∧ K v w'
  | .of h => h
  | .never h => h.elim
inductive RunsU (P : Program) (s : Sem Unit) (w : World) (K : World → Prop) : Prop where
  | of (h : ∀ n, ∃ m w', s.run P (w.drewN n) = .ok () (World.drewN w' m) ∧ K w')
  | never (h : False)
theorem RunsU.out {P : Program} {s : Sem Unit} {w : World} {K : World → Prop} : RunsU P s w K → ∀ n, ∃ m w', s.run P (w.drewN n) = .ok () (World.drewN w' m) ∧ K w'
  | .of h => h
  | .never h => h.elim

def Wr (w : World) (a : Addr) : Prop := (∃ u, w.cell? a = some u) ∧ w.frozen? a = false
def Row (w : World) (a : Addr) (i : Nat) : List Value → Prop
  | [] => True
  | v :: r => w.cell? (a.add i) = some v ∧ Row w a (i + 1) r
def NotAgg (v : Value) (X : Prop) : Prop := match v with
  | .agg _ => False
  | .tuple _ => False
  | _ => X
def notAgg : Value → Bool
  | .agg _ => false
  | .tuple _ => false
  | _ => true
theorem NotAgg.spec {v : Value} {X : Prop} (h : NotAgg v X) : notAgg v = true ∧ X := by
  cases v <;> first | exact ⟨rfl, h⟩ | exact h.elim
theorem NotAgg.mk {v : Value} {X : Prop} (h : notAgg v = true) (x : X) : NotAgg v X := by
  cases v <;> first | exact x | exact absurd h (by simp [notAgg])
def WrRow (w : World) (a : Addr) (i : Nat) : List Value → Prop
  | [] => True
  | v :: r => NotAgg v (Wr w (a.add i)) ∧ WrRow w a (i + 1) r
def setRow (w : World) (a : Addr) (i : Nat) : List Value → World
  | [] => w
  | v :: r => setRow (w.setCell (a.add i) v) a (i + 1) r

/- Typed quantifiers -/
section
variable (P : Program)
def exCell (t : TypeId) (F : Value → Prop) : Prop := match P.underlying t with
  | some (.int k) => ∃ n : Int, F (.int k n)
  | some .bool => ∃ b : Bool, F (.bool b)
  | some .string => ∃ s : ByteArray, F (.string s)
  | some (.pointer _) => ∃ p : Option Addr, F (.pointer p)
  | some (.slice _) => ∃ (p : Option Addr) (n c : Nat), F (.slice p n c)
  | some (.map _ _) => ∃ r : Option Nat, F (.map r)
  | some (.func _ _ _) => ∃ (g : FuncId) (first cap : Array Value), F (.func (.func g) first cap)
  | _ => ∃ v : Value, F v
def allCell (t : TypeId) (F : Value → Prop) : Prop := match P.underlying t with
  | some (.int k) => ∀ n : Int, F (.int k n)
  | some .bool => ∀ b : Bool, F (.bool b)
  | some .string => ∀ s : ByteArray, F (.string s)
  | some (.pointer _) => ∀ p : Option Addr, F (.pointer p)
  | some (.slice _) => ∀ (p : Option Addr) (n c : Nat), F (.slice p n c)
  | some (.map _ _) => ∀ r : Option Nat, F (.map r)
  | _ => ∀ v : Value, F v

def fieldTs : List Field → List TypeId → List TypeId
  | [], l => l
  | f :: r, l => f.type :: fieldTs r l
def repT : Nat → TypeId → List TypeId → List TypeId
  | 0, _, l => l
  | n + 1, t, l => t :: repT n t l
def cellsL : Nat → List TypeId → List TypeId
  | 0, _ => []
  | _ + 1, [] => []
  | fuel + 1, t :: r => match P.underlying t with
    | some (.struct fs) => cellsL fuel (fieldTs fs.toList r)
    | some (.array n e) => cellsL fuel (repT n e r)
    | _ => t :: cellsL fuel r
def cellTys (fuel : Nat) (t : TypeId) : List TypeId := cellsL P fuel [t]
def isAggT (t : TypeId) : Bool := match P.underlying t with
  | some (.struct _) => true
  | some (.array _ _) => true
  | _ => false
def exCells : List TypeId → (List Value → Prop) → Prop
  | [], F => F []
  | t :: r, F => exCell P t fun v => exCells r fun vs => F (v :: vs)
def allCells : List TypeId → (List Value → Prop) → Prop
  | [], F => F []
  | t :: r, F => allCell P t fun v => allCells r fun vs => F (v :: vs)
def exVar (t : TypeId) (F : Value → Prop) : Prop := match isAggT P t with
  | true => Ev (cellTys P 1000 t) fun ts => exCells P ts fun vs => F (.agg ⟨vs⟩)
  | false => exCell P t F
def allVar (t : TypeId) (F : Value → Prop) : Prop := match isAggT P t with
  | true => Ev (cellTys P 1000 t) fun ts => allCells P ts fun vs => F (.agg ⟨vs⟩)
  | false => allCell P t F
def exVars : List TypeId → (List Value → Prop) → Prop
  | [], F => F []
  | t :: r, F => exVar P t fun v => exVars r fun vs => F (v :: vs)
def allVars : List TypeId → (List Value → Prop) → Prop
  | [], F => F []
  | t :: r, F => allVar P t fun v => allVars r fun vs => F (v :: vs)
def exRes (t : TypeId) (F : Value → Prop) : Prop := match P.underlying t with
  | some (.tuple ts) => exVars P ts.toList fun vs => F (.tuple ⟨vs⟩)
  | _ => exVar P t F
variable {P}
theorem exCell_spec {t : TypeId} {F : Value → Prop} (h : exCell P t F) : ∃ v, F v := by
  unfold exCell at h
  split at h
  all_goals first
    | (obtain ⟨a, b, c, h⟩ := h; exact ⟨_, h⟩)
    | (obtain ⟨a, h⟩ := h; exact ⟨_, h⟩)
theorem exCells_spec : ∀ {l : List TypeId} {F : List Value → Prop}, exCells P l F → ∃ vs, F vs
  | [], _, h => ⟨_, h⟩
  | _ :: _, _, h => by
    obtain ⟨v, h⟩ := exCell_spec h
    obtain ⟨vs, h⟩ := exCells_spec h
    exact ⟨_, h⟩
theorem exVar_spec {t : TypeId} {F : Value → Prop} (h : exVar P t F) : ∃ v, F v := by
  unfold exVar at h
  split at h
  · unfold Ev at h; obtain ⟨vs, h⟩ := exCells_spec h; exact ⟨_, h⟩
  · exact exCell_spec h
theorem exVars_spec : ∀ {l : List TypeId} {F : List Value → Prop}, exVars P l F → ∃ vs, F vs
  | [], _, h => ⟨_, h⟩
  | _ :: _, _, h => by
    obtain ⟨v, h⟩ := exVar_spec h
    obtain ⟨vs, h⟩ := exVars_spec h
    exact ⟨_, h⟩
theorem exRes_spec {t : TypeId} {F : Value → Prop} (h : exRes P t F) : ∃ v, F v := by
  unfold exRes at h
  split at h
  · obtain ⟨vs, h⟩ := exVars_spec h; exact ⟨_, h⟩
  · exact exVar_spec h
end

/- What a small program of the model does -/
section
variable (P : Program)
def semPure {α : Type} : Sem α → (α → Prop) → Prop
  | .pure a, K => K a
  | .program k, K => semPure (k P) K
  | .mark _ k, K => semPure k K
  | _, _ => False
def semWp {α : Type} : Sem α → World → (α → World → Prop) → Prop
  | .pure a, w, K => K a w
  | .program k, w, K => semWp (k P) w K
  | .mark _ k, w, K => semWp k w K
  | .load _ a k, w, K => ∃ v, w.cell? a = some v ∧ semWp (k v) w K
  | .store _ a v k, w, K => NotAgg v (Wr w a ∧ LetW (w.setCell a v) fun w' => semWp k w' K)
  | .new o k, w, K => LetA o w fun b w' => semWp (k b) w' K
  | _, _, _ => False
variable {P}
theorem semPure_spec {α : Type} : ∀ {s : Sem α} {K : α → Prop}, semPure P s K → ∃ v, K v ∧ ∀ w, s.run P w = .ok v w
  | .pure a, _, h => ⟨a, h, fun _ => rfl⟩
  | .program k, _, h => by
    obtain ⟨v, hK, hr⟩ := semPure_spec (s := k P) h
    exact ⟨v, hK, fun w => by simp [Sem.run, hr]⟩
  | .mark _ k, _, h => by
    obtain ⟨v, hK, hr⟩ := semPure_spec (s := k) h
    exact ⟨v, hK, fun w => by simp [Sem.run, hr]⟩
  | .load .., _, h => h.elim
  | .store .., _, h => h.elim
  | .new .., _, h => h.elim
  | .shape .., _, h => h.elim
  | .freeze .., _, h => h.elim
  | .frozen .., _, h => h.elim
  | .getObj .., _, h => h.elim
  | .setObj .., _, h => h.elim
  | .choose .., _, h => h.elim
  | .sys .., _, h => h.elim
  | .halt _, _, h => h.elim
theorem run_store_plain {α : Type} {m : Mode} {a : Addr} {v : Value} {k : Sem α} {w : World} (h1 : notAgg v = true) (h2 : Wr w a) : (Sem.store m a v k).run P w = k.run P (w.setCell a v) := by
  obtain ⟨⟨u, hu⟩, hf⟩ := h2
  cases v <;> simp [notAgg] at h1 <;> simp [Sem.run, hu, hf]
theorem semWp_spec {α : Type} : ∀ {s : Sem α} {w : World} {K : α → World → Prop}, semWp P s w K → ∀ n, ∃ v w', K v w' ∧ s.run P (w.drewN n) = .ok v (World.drewN w' n)
  | .pure a, w, _, h, _ => ⟨a, w, h, rfl⟩
  | .program k, _, _, h, n => by
    obtain ⟨v, w', hK, hr⟩ := semWp_spec (s := k P) h n
    exact ⟨v, w', hK, by simp [Sem.run, hr]⟩
  | .mark _ k, _, _, h, n => by
    obtain ⟨v, w', hK, hr⟩ := semWp_spec (s := k) h n
    exact ⟨v, w', hK, by simp [Sem.run, hr]⟩
  | .load _ a k, w, _, h, n => by
    obtain ⟨u, hu, h⟩ := h
    obtain ⟨v, w', hK, hr⟩ := semWp_spec (s := k u) h n
    exact ⟨v, w', hK, by simp [Sem.run, hu, hr]⟩
  | .store m a u k, w, _, h, n => by
    obtain ⟨h1, h2, h⟩ := NotAgg.spec h
    obtain ⟨v, w', hK, hr⟩ := semWp_spec (s := k) h.out n
    exact ⟨v, w', hK, by rw [run_store_plain h1 (w := w.drewN n) h2]; exact hr⟩
  | .new o k, w, _, h, n => by
    obtain ⟨v, w', hK, hr⟩ := semWp_spec (s := k w.heap.size) h.out n
    exact ⟨v, w', hK, by simp only [Sem.run]; exact hr⟩
  | .shape .., _, _, h, _ => h.elim
  | .freeze .., _, _, h, _ => h.elim
  | .frozen .., _, _, h, _ => h.elim
  | .getObj .., _, _, h, _ => h.elim
  | .setObj .., _, _, h, _ => h.elim
  | .choose .., _, _, h, _ => h.elim
  | .sys .., _, _, h, _ => h.elim
  | .halt _, _, _, h, _ => h.elim
end

/- One operation -/
section
variable (P : Program)
def sizeT (t : TypeId) : Nat := match P.info? t with
  | some i => i.size
  | none => 0
def nextV (K : Value → Prop) : Next → Prop
  | .value v => K v
  | _ => False
def nextW (K : Value → World → Prop) (n : Next) (w : World) : Prop := match n with
  | .value v => K v w
  | .skip => K undef w
  | _ => False
def tyK (t : TypeId) (K : Value → World → Prop) (v : Value) (w : World) : Prop := exRes P t fun u => v = u ∧ K u w
def argsL (ρ : Operand → Value) : List Operand → List Value
  | [] => []
  | x :: r => ρ x :: argsL ρ r
def optV (ρ : Operand → Value) : Option Operand → Option Value
  | none => none
  | some x => some (ρ x)
def calleeOk (f : FuncId) : Bool := match P.funcs[f]? with
  | some fn => match fn.name == "runtime.NumGoroutine" with
    | true => false
    | false => fn.body.isSome
  | none => false
def loInt (d : Int) : Option Value → (Int → Prop) → Prop
  | none, F => F d
  | some (.int _ i), F => F i
  | _, _ => False
def eqlNil (neg : Bool) (b : Bool) : Value := match neg with
  | true => .bool (!b)
  | false => .bool b

def hasT (t : TypeId) : Bool := match P.info? t, P.underlying t with
  | some _, some _ => true
  | _, _ => false
def vcPure (o : Oper) (ρ : Operand → Value) (K : Value → Option (World → Prop) → Prop) : Prop := semPure P (execOp ρ o) (nextV fun v => K v none)

/- '==' of structs and arrays of what is plain -/
def partC (t : TypeId) (cs : Array Value) (off : Nat) (K : Value → Prop) : Prop := Need (hasT P t) <| match isAggT P t with
  | true => K (.agg ⟨(cs.toList.drop off).take (sizeT P t)⟩)
  | false => match cs.toList[off]? with
    | some v => K v
    | none => False
def eqFs (rec_ : TypeId → Value → Value → (Bool → Prop) → Prop) (xs ys : Array Value) : List Field → (Bool → Prop) → Prop
  | [], K => K true
  | f :: fs, K => Ev (decide (f.name ≠ "_")) fun nb => match nb with
    | true => partC P f.type xs f.offset fun a => partC P f.type ys f.offset fun b => rec_ f.type a b fun r => eqFs rec_ xs ys fs fun r' => K (r && r')
    | false => eqFs rec_ xs ys fs K
def eqIs (rec_ : TypeId → Value → Value → (Bool → Prop) → Prop) (e : TypeId) (n : Nat) (xs ys : Array Value) : List Nat → (Bool → Prop) → Prop
  | [], K => K true
  | j :: js, K => partC P e xs (j * n) fun a => partC P e ys (j * n) fun b => rec_ e a b fun r => eqIs rec_ e n xs ys js fun r' => K (r && r')
def eqC : Nat → TypeId → Value → Value → (Bool → Prop) → Prop
  | 0, _, _, _, _ => False
  | d + 1, t, x, y, K => match P.underlying t with
    | some .bool => match x, y with
      | .bool a, .bool b => K (a == b)
      | _, _ => False
    | some (.int _) => match x, y with
      | .int k a, .int k' b => match decide (k = k') with
        | true => K (a == b)
        | false => False
      | _, _ => False
    | some .string => match x, y with
      | .string a, .string b => K (a.toList == b.toList)
      | _, _ => False
    | some (.struct fs) => match x, y with
      | .agg xs, .agg ys => Ev (P.stoodInHeld t) fun s => match s with
        | true => False
        | false => eqFs P (eqC d) xs ys fs.toList K
      | _, _ => False
    | some (.array n e) => match x, y with
      | .agg xs, .agg ys => Need (hasT P e) (eqIs P (eqC d) e (sizeT P e) xs ys (List.range n) K)
      | _, _ => False
    | _ => False
def vcEql (neg : Bool) (o : Oper) (ρ : Operand → Value) (t : TypeId) (a b : Value) (K : Value → Option (World → Prop) → Prop) : Prop := match b, a with
  | .pointer none, .pointer p => match P.underlying t with
    | some (.pointer _) => K (eqlNil neg p.isNone) none
    | _ => False
  | .slice none _ _, .slice p _ _ => match P.underlying t with
    | some (.slice _) => K (eqlNil neg p.isNone) none
    | _ => False
  | .map none, .map p => match P.underlying t with
    | some (.map _ _) => K (eqlNil neg p.isNone) none
    | _ => False
  | .agg ys, .agg xs => Ev (P.eqGuardType P.depth t) fun g => match g with
    | true => False
    | false => eqC P 100 t (.agg xs) (.agg ys) fun b => K (eqlNil neg b) none
  | _, _ => vcPure P o ρ K

def vcBin (o : Oper) (ρ : Operand → Value) (op : BinOp) (t : TypeId) (a b : Value) (K : Value → Option (World → Prop) → Prop) : Prop := match op with
  | .quo => match a, b with
    | .int k x, .int k' y => match decide (k = k') with
      | true => y ≠ 0 ∧ LetI (k.wrap (x.tdiv y)) fun n => K (.int k n) none
      | false => False
    | _, _ => False
  | .rem => match a, b with
    | .int k x, .int k' y => match decide (k = k') with
      | true => y ≠ 0 ∧ LetI (x.tmod y) fun n => K (.int k n) none
      | false => False
    | _, _ => False
  | .shl => match a, b with
    | .int k x, .int _ y => 0 ≤ y ∧ LetI (k.wrap (x * 2 ^ (min y.toNat k.bits))) fun n => K (.int k n) none
    | _, _ => False
  | .shr => match a, b with
    | .int k x, .int _ y => 0 ≤ y ∧ LetI (x.fdiv (2 ^ (min y.toNat k.bits))) fun n => K (.int k n) none
    | _, _ => False
  | .add => match a, b with
    | .string x, .string y => ((x.size + y.size : Nat) : Int) ≤ IntKind.i64.max ∧ K (.string (x ++ y)) none
    | .int k x, .int k' y => match decide (k = k') with
      | true => LetI (k.wrap (x + y)) fun n => K (.int k n) none
      | false => False
    | _, _ => vcPure P o ρ K
  | .sub => match a, b with
    | .int k x, .int k' y => match decide (k = k') with
      | true => LetI (k.wrap (x - y)) fun n => K (.int k n) none
      | false => False
    | _, _ => vcPure P o ρ K
  | .mul => match a, b with
    | .int k x, .int k' y => match decide (k = k') with
      | true => LetI (k.wrap (x * y)) fun n => K (.int k n) none
      | false => False
    | _, _ => vcPure P o ρ K
  | .eql => vcEql P false o ρ t a b K
  | .neq => vcEql P true o ρ t a b K
  | _ => vcPure P o ρ K

def vcSlice (t : TypeId) (x : Value) (lo hi mx : Option Value) (K : Value → Option (World → Prop) → Prop) : Prop := match P.underlying t with
  | some .string => match x, mx with
    | .string s, none => loInt 0 lo fun l => loInt s.size hi fun h => (0 ≤ l ∧ l ≤ h ∧ h ≤ s.size) ∧ K (.string (s.extract l.toNat h.toNat)) none
    | _, _ => False
  | some (.slice e) => Need (hasT P e) <| match x with
    | .slice p n c => loInt 0 lo fun l => loInt n hi fun h => loInt c mx fun m => (0 ≤ l ∧ l ≤ h ∧ h ≤ m ∧ m ≤ c ∧ (mx.isSome = true → hi.isSome = true)) ∧
        K (.slice (if m.toNat = l.toNat then p else p.map (·.add (l.toNat * sizeT P e))) (h.toNat - l.toNat) (m.toNat - l.toNat)) none
    | _ => False
  | some (.array n e) => Need (hasT P e) <| match x with
    | .pointer p => NilOk p fun a => loInt 0 lo fun l => loInt n hi fun h => loInt n mx fun m => (0 ≤ l ∧ l ≤ h ∧ h ≤ m ∧ m ≤ n ∧ (mx.isSome = true → hi.isSome = true)) ∧
        K (.slice (some (if m.toNat = l.toNat then a else a.add (l.toNat * sizeT P e))) (h.toNat - l.toNat) (m.toNat - l.toNat)) none
    | _ => False
  | _ => False

def vcNon (o : Oper) (ρ : Operand → Value) (w : World) (K : Value → Option (World → Prop) → Prop) : Prop := match o.op with
  | .move x => K (ρ x) none
  | .assign x => K (ρ x) none
  | .pick c a b => match ρ c with
    | .bool c => Br c (K (ρ a) none) (K (ρ b) none)
    | _ => False
  | .nilCheck x => match ρ x with
    | .pointer p => NilOk p fun a => K (.pointer (some a)) none
    | _ => vcPure P o ρ K
  | .binOp op t x y _ => vcBin P o ρ op t (ρ x) (ρ y) K
  | .load t x => Need (hasT P t) <| match ρ x with
    | .pointer p => NilOk p fun a => match isAggT P t with
      | true => Ev (cellTys P 1000 t) fun ts => exCells P ts fun vs => Need (Nat.beq vs.length (sizeT P t)) (Row w a 0 vs ∧ K (.agg ⟨vs⟩) (some fun w' => Row w' a 0 vs))
      | false => exCell P t fun v => w.cell? a = some v ∧ K v (some fun w' => w'.cell? a = some v)
    | _ => False
  | .index t x i => match P.underlying t, ρ x, ρ i with
    | some .string, .string s, .int _ i => (0 ≤ i ∧ i < s.size) ∧ K (.int .u8 (s.data.getD i.toNat 0).toNat) none
    | _, _, _ => vcPure P o ρ K
  | .indexAddr t x i => match P.underlying t, ρ x, ρ i with
    | some (.slice e), .slice p n _, .int _ i => Need (hasT P e) <| NilOk p fun a => (0 ≤ i ∧ i < n) ∧ K (.pointer (some (a.add (i.toNat * sizeT P e)))) none
    | some (.array n e), .pointer p, .int _ i => Need (hasT P e) <| NilOk p fun a => (0 ≤ i ∧ i < n) ∧ K (.pointer (some (a.add (i.toNat * sizeT P e)))) none
    | _, _, _ => False
  | .slice t x lo hi mx => vcSlice P t (ρ x) (optV ρ lo) (optV ρ hi) (optV ρ mx) K
  | .call c => match c.callee with
    | .builtin .max => match argsL ρ c.args.toList with
      | [.int k x, .int _ y] => LetI (max x y) fun n => K (.int k n) none
      | _ => False
    | .builtin .min => match argsL ρ c.args.toList with
      | [.int k x, .int _ y] => LetI (min x y) fun n => K (.int k n) none
      | _ => False
    | _ => vcPure P o ρ K
  | .convert s d x => match P.underlying d, ρ x with
    | some (.int k), .int _ n => Need (hasT P s) (LetI (k.wrap n) fun m => K (.int k m) none)
    | _, _ => vcPure P o ρ K
  | _ => vcPure P o ρ K

def isScalar (t : TypeId) : Bool := match P.underlying t with
  | some (.int _) => true
  | some .bool => true
  | _ => false
def isStr (t : TypeId) : Bool := match P.underlying t with
  | some .string => true
  | _ => false
def isMapT (t : TypeId) : Bool := match P.underlying t with
  | some (.map _ _) => true
  | _ => false
def nonEff (o : Oper) : Bool := match o.op with
  | .move _ => true
  | .assign _ => true
  | .pick _ _ _ => true
  | .nilCheck _ => true
  | .binOp _ _ _ _ _ => true
  | .unOp _ _ _ => true
  | .fieldAddr _ _ _ => true
  | .field _ _ _ => true
  | .indexAddr _ _ _ => true
  | .index _ _ _ => true
  | .extract _ _ => true
  | .build _ _ => true
  | .makeInterface _ _ => true
  | .makeFunc _ _ _ => true
  | .load _ _ => true
  | .slice _ _ _ _ _ => true
  | .convert s d _ => match isScalar P s with
    | true => isScalar P d
    | false => match isStr P s with
      | true => isStr P d
      | false => false
  | .call c => match c.callee with
    | .builtin .max => true
    | .builtin .min => true
    | .builtin .len => match isMapT P (c.argTypes.getD 0 0) with
      | true => false
      | false => true
    | .builtin .cap => true
    | _ => false
  | _ => false

def vcEff (o : Oper) (ρ : Operand → Value) (w : World) (K : Value → World → Prop) : Prop := match o.op with
  | .store t a x => Need (hasT P t) <| match ρ a with
    | .pointer p => NilOk p fun ad => match ρ x with
      | .agg ⟨cs⟩ => Need (Nat.beq cs.length (sizeT P t)) (WrRow w ad 0 cs ∧ LetW (setRow w ad 0 cs) (K undef))
      | v => Need (Nat.beq 1 (sizeT P t)) (NotAgg v (Wr w ad ∧ LetW (w.setCell ad v) (K undef)))
    | _ => False
  | .call c => match c.callee with
    | .value f => match ρ f with
      | .func (.func g) first cap => Br (calleeOk P g)
        (Ca P g (List.toArray (first.toList ++ argsL ρ c.args.toList ++ cap.toList)) w fun e w' => exRes P o.type fun v => e = .returned v ∧ K v w')
        (RunsX P g (List.toArray (first.toList ++ argsL ρ c.args.toList ++ cap.toList)) w (tyK P o.type K))
      | _ => False
    | .builtin b => match b with
      | .append => RunsV P (Builtin.append_ c.argTypes o.type (List.toArray (argsL ρ c.args.toList))) w (tyK P o.type K)
      | .copy => RunsV P (Builtin.copy_ c.argTypes o.type (List.toArray (argsL ρ c.args.toList))) w (tyK P o.type K)
      | .delete => RunsV P (Builtin.delete_ c.argTypes o.type (List.toArray (argsL ρ c.args.toList))) w (tyK P o.type K)
      | .len => RunsV P (Builtin.len_ c.argTypes o.type (List.toArray (argsL ρ c.args.toList))) w (tyK P o.type K)
      | .clear => RunsV P (Builtin.clear_ c.argTypes o.type (List.toArray (argsL ρ c.args.toList))) w (tyK P o.type K)
      | _ => False
    | _ => False
  | .convert s d x => RunsV P (convert s d (ρ x)) w (tyK P o.type K)
  | .lookup t x i ok => RunsV P (Instr.lookup t (ρ x) (ρ i) ok) w (tyK P o.type K)
  | .makeSlice t l c => RunsV P (Instr.makeSlice t (ρ l) (ρ c)) w (tyK P o.type K)
  | .mapUpdate t m k x => RunsU P (Instr.mapUpdate t (ρ m) (ρ k) (ρ x)) w (K undef)
  | .insert t m k x => RunsU P (Instr.mapUpdate t (ρ m) (ρ k) (ρ x)) w (K undef)
  | .mapEntry t m k => RunsV P (Instr.mapEntry t (ρ m) (ρ k)) w K
  | .entryStore t m s x => RunsU P (Instr.entryStore t (ρ m) (ρ s) (ρ x)) w (K undef)
  | .range t x => RunsV P (Instr.range t (ρ x)) w K
  | .next it s => RunsV P (Instr.next (ρ it) s o.type) w (tyK P o.type K)
  | .entry it => RunsV P (Instr.entry (ρ it)) w K
  | .typeAssert x t a ok => RunsV P (Instr.typeAssert (ρ x) t a ok) w (tyK P o.type K)
  | _ => semWp P (execOp ρ o) w (nextW K)
end
end Go.Vc
