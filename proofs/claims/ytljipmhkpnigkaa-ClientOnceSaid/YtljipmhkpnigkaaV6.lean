/- From a contract to a law's row: arguments that can be read; 'it returns true, and what came in reads as it did'. No program is named. -/
import Derived.Test.YtljipmhkpnigkaaV5
import Derived.ProofKit
import Derived.Deep.Slices
import Derived.OpenShut
import Derived.Handed
import Derived.Carry
namespace Go.Vc
open Go.ChangeShapes Go.WideShapes Go.ChangeAt Go.RowKit

/- What can be read -/
def Rd (P : Program) (w : World) (t : TypeId) (cs : List Value) : Prop :=
  ∃ (H : Type) (enc : TypeId × Value → H) (base : Nat) (spare : Nat → Bool) (held : Bool) (fuel : Nat) (x : DataW H × List MemPlace), DataW.trod enc P w base spare held fuel t cs = some x

section
variable {P : Program} {w : World} {t : TypeId} {cs : List Value}
theorem Rd.bool (h : Rd P w t cs) (ht : P.underlying t = some .bool) : ∃ b, cs = [.bool b] := by
  obtain ⟨_, _, _, _, _, _, _, h⟩ := h
  obtain ⟨b, hb, _⟩ := DataW.trod_bool ht h
  exact ⟨b, hb⟩
theorem Rd.int {k : IntKind} (h : Rd P w t cs) (ht : P.underlying t = some (.int k)) : ∃ n, cs = [.int k n] ∧ (Lit.int k n).wf = true := by
  obtain ⟨_, _, _, _, _, _, _, h⟩ := h
  obtain ⟨n, hb, _, hw⟩ := DataW.trod_int ht h
  exact ⟨n, hb, hw⟩
theorem Rd.string (h : Rd P w t cs) (ht : P.underlying t = some .string) : ∃ s : ByteArray, cs = [.string s] ∧ s.size ≤ maxLen := by
  obtain ⟨_, _, _, _, _, _, _, h⟩ := h
  obtain ⟨n, hb, _, hw⟩ := DataW.trod_string ht h
  exact ⟨n, hb, hw⟩
theorem cells?_row {base : Nat} {a : Addr} {n : Nat} {cs : List Value} (h : w.cells? base a n = some cs) : cs.length = n ∧ Row w a 0 cs := by
  obtain ⟨_, hl, hc⟩ := World.cells?_some h
  refine ⟨hl, ?_⟩
  have : ∀ (l : List Value) (i : Nat), (∀ j v, l[j]? = some v → w.cell? (a.add (i + j)) = some v) → Row w a i l := by
    intro l
    induction l with
    | nil => intro _ _; trivial
    | cons v r ih =>
      intro i hl
      exact ⟨by simpa using hl 0 v rfl, ih (i + 1) fun j u hu => by have := hl (j + 1) u (by simpa using hu); rw [show i + 1 + j = i + (j + 1) by omega]; exact this⟩
  refine this cs 0 fun j v hv => ?_
  have hj : j < n := by
    rw [← hl]
    rcases Nat.lt_or_ge j cs.length with h' | h'
    · exact h'
    · simp [List.getElem?_eq_none h'] at hv
  rw [Nat.zero_add, hc j hj]; exact hv
theorem row_block {a : Addr} {v : Value} {r : List Value} {i : Nat} (h : Row w a i (v :: r)) : a.block < w.heap.size := by
  have hb : (a.add i).block = a.block := by unfold Addr.add; split <;> rfl
  have hc := h.1
  rw [← hb]
  rcases Nat.lt_or_ge (a.add i).block w.heap.size with h' | h'
  · exact h'
  · simp [World.cell?, Array.getElem?_eq_none h'] at hc
theorem Rd.slice {e : TypeId} (h : Rd P w t cs) (ht : P.underlying t = some (.slice e)) : ∃ p n c, cs = [.slice p n c] ∧ n ≤ c ∧ c ≤ maxLen ∧
    ∀ i, i < n → ∃ a vs, p = some a ∧ vs.length = P.cellsOf e ∧ Row w (a.add (i * P.cellsOf e)) 0 vs ∧ Rd P w e vs := by
  obtain ⟨H, enc, base, spare, held, fuel, x, h⟩ := h
  rcases DataW.trod_slice ht h with ⟨rfl, _⟩ | ⟨a, len, cap, elems, rest, n, _, rfl, _, _, hlen, hcap, hel, hi, _⟩
  · exact ⟨none, 0, 0, rfl, Nat.le_refl _, Nat.zero_le _, fun i hi => absurd hi (by omega)⟩
  · refine ⟨some a, len, cap, rfl, hlen, hcap, fun i hil => ?_⟩
    have h1 := hi i hil
    have h2 : elems[i]? = some (elems[i]'(by omega)) := List.getElem?_eq_getElem (by omega)
    rw [h2] at h1
    cases hc : w.cells? base (a.add (i * P.cellsOf e)) (P.cellsOf e) with
    | none => rw [hc] at h1; cases h1
    | some vs =>
      rw [hc] at h1
      obtain ⟨hl, hr⟩ := cells?_row hc
      exact ⟨a, vs, rfl, hl, hr, H, enc, base, spare, held, n, _, h1⟩
theorem Rd.struct {fs : Array Field} (h : Rd P w t cs) (ht : P.underlying t = some (.struct fs)) : cs.length = P.cellsOf t ∧
    ∀ (i : Nat) (f : Field), fs[i]? = some f → Rd P w f.type ((cs.drop f.offset).take (P.cellsOf f.type)) := by
  obtain ⟨H, enc, base, spare, held, fuel, x, h⟩ := h
  obtain ⟨xs, n, _, _, hl, hxl, hf⟩ := DataW.trod_struct ht h
  refine ⟨hl, fun i f hi => ⟨H, enc, base, spare, held, n, xs[i]'(by have := (Array.getElem?_eq_some_iff.1 hi).1; omega), ?_⟩⟩
  rw [hf i f hi]
  exact List.getElem?_eq_getElem _
theorem Rd.field {fs : Array Field} (h : Rd P w t cs) (ht : P.underlying t = some (.struct fs)) (i : Nat) {f : Field} (hf : fs[i]? = some f) {c : Nat} {l : List Value} (hc : P.cellsOf f.type = c) (hl : (cs.drop f.offset).take c = l) : Rd P w f.type l := by
  have := (h.struct ht).2 i f hf
  rw [hc, hl] at this
  exact this
theorem Rd.int1 {k : IntKind} {v : Value} (h : Rd P w t [v]) (ht : P.underlying t = some (.int k)) : ∃ n, v = .int k n ∧ (Lit.int k n).wf = true := by
  obtain ⟨n, hn, hw⟩ := h.int ht
  exact ⟨n, (List.cons.inj hn).1, hw⟩
theorem Rd.str1 {v : Value} (h : Rd P w t [v]) (ht : P.underlying t = some .string) : ∃ l : List UInt8, v = .string ⟨⟨l⟩⟩ ∧ l.length ≤ maxLen := by
  obtain ⟨s, hn, hw⟩ := h.string ht
  exact ⟨s.data.toList, (List.cons.inj hn).1, by simpa using hw⟩
theorem Rd.bool1 {v : Value} (h : Rd P w t [v]) (ht : P.underlying t = some .bool) : ∃ b, v = .bool b := by
  obtain ⟨b, hn⟩ := h.bool ht
  exact ⟨b, (List.cons.inj hn).1⟩
theorem Rd.slice1 {e : TypeId} {v : Value} (h : Rd P w t [v]) (ht : P.underlying t = some (.slice e)) : ∃ p n c, v = .slice p n c ∧ n ≤ c ∧ c ≤ maxLen ∧
    ∀ i, i < n → ∃ a vs, p = some a ∧ vs.length = P.cellsOf e ∧ Row w (a.add (i * P.cellsOf e)) 0 vs ∧ Rd P w e vs := by
  obtain ⟨p, n, c, hn, h1⟩ := h.slice ht
  exact ⟨p, n, c, (List.cons.inj hn).1, h1⟩
/-- the elements of a slice, each read as one of a kind -/
theorem elems_of {α : Type} {enc : α → List Value} {sz n : Nat} {e : TypeId} {p : Option Addr} (hsz : P.cellsOf e = sz) (hrd : ∀ vs, Rd P w e vs → ∃ x, vs = enc x)
    (h : ∀ i, i < n → ∃ a vs, p = some a ∧ vs.length = P.cellsOf e ∧ Row w (a.add (i * P.cellsOf e)) 0 vs ∧ Rd P w e vs) :
    ∃ l : List α, n = l.length ∧ ∀ (i : Nat) (h : i < l.length), ∃ a, p = some a ∧ Row w (a.add (i * sz)) 0 (enc l[i]) := by
  rw [hsz] at h
  have key : ∀ m, m ≤ n → ∃ l : List α, l.length = m ∧ ∀ (i : Nat) (h : i < l.length), ∃ a, p = some a ∧ Row w (a.add (i * sz)) 0 (enc l[i]) := by
    intro m
    induction m with
    | zero => exact fun _ => ⟨[], rfl, fun i hi => by simp at hi⟩
    | succ m ih =>
      intro hm
      obtain ⟨l, hl, hM⟩ := ih (by omega)
      obtain ⟨a, vs, hp, _, hr, hv⟩ := h m (by omega)
      obtain ⟨o, rfl⟩ := hrd _ hv
      refine ⟨l ++ [o], by simp [hl], fun i hi' => ?_⟩
      rw [List.length_append, List.length_singleton] at hi'
      rcases Nat.lt_or_ge i l.length with h' | h'
      · rw [List.getElem_append_left h']; exact hM i h'
      · obtain rfl : i = l.length := by omega
        refine ⟨a, hp, ?_⟩
        rw [List.getElem_concat_length rfl, hl]; exact hr
  obtain ⟨l, hl, hM⟩ := key n (Nat.le_refl _)
  exact ⟨l, hl.symm, hM⟩
theorem Rd.array {n : Nat} {e : TypeId} (h : Rd P w t cs) (ht : P.underlying t = some (.array n e)) : cs.length = P.cellsOf t ∧
    ∀ i, i < n → Rd P w e ((cs.drop (i * P.cellsOf e)).take (P.cellsOf e)) := by
  obtain ⟨H, enc, base, spare, held, fuel, x, h⟩ := h
  obtain ⟨xs, m, _, _, hl, hxl, hf⟩ := DataW.trod_array ht h
  refine ⟨hl, fun i hi => ⟨H, enc, base, spare, held, m, xs[i]'(by omega), ?_⟩⟩
  rw [hf i hi]
  exact List.getElem?_eq_getElem _

/-- an argument: it can be read, and has its type's form -/
def Arg (P : Program) (w : World) (t : TypeId) (v : Value) : Prop := Rd P w t v.cells.toList ∧ ∃ base, Value.okWide P w .any base t v
theorem Arg.bool {v : Value} (h : Arg P w t v) (ht : P.underlying t = some .bool) : ∃ b, v = .bool b := by
  obtain ⟨_, _, hw⟩ := h
  exact okWide_bool ht hw
theorem Arg.int {k : IntKind} {v : Value} (h : Arg P w t v) (ht : P.underlying t = some (.int k)) : ∃ n, v = .int k n ∧ (Lit.int k n).wf = true := by
  obtain ⟨hr, _, hw⟩ := h
  obtain ⟨n, rfl⟩ := okWide_int ht hw
  obtain ⟨m, hm, hwf⟩ := hr.int ht
  simp [Value.cells] at hm
  exact ⟨n, rfl, by rw [hm]; exact hwf⟩
theorem Arg.string {v : Value} (h : Arg P w t v) (ht : P.underlying t = some .string) : ∃ s, v = .string s ∧ s.size ≤ maxLen := by
  obtain ⟨hr, _, hw⟩ := h
  obtain ⟨n, rfl⟩ := okWide_string ht hw
  obtain ⟨m, hm, hwf⟩ := hr.string ht
  simp [Value.cells] at hm
  exact ⟨n, rfl, by rw [hm]; exact hwf⟩
theorem Arg.slice {e : TypeId} {v : Value} (h : Arg P w t v) (ht : P.underlying t = some (.slice e)) : ∃ p n c, v = .slice p n c ∧ n ≤ c ∧ c ≤ maxLen ∧
    ∀ i, i < n → ∃ a vs, p = some a ∧ vs.length = P.cellsOf e ∧ Row w (a.add (i * P.cellsOf e)) 0 vs ∧ Rd P w e vs := by
  obtain ⟨hr, _, hw⟩ := h
  obtain ⟨p, n, c, rfl⟩ := okWide_slice ht hw
  obtain ⟨p', n', c', hm, h1, h2, h3⟩ := hr.slice ht
  simp [Value.cells] at hm
  obtain ⟨rfl, rfl, rfl⟩ := hm
  exact ⟨p, n, c, rfl, h1, h2, h3⟩
theorem Arg.struct {fs : Array Field} {v : Value} (h : Arg P w t v) (ht : P.underlying t = some (.struct fs)) : ∃ l : List Value, v = .agg ⟨l⟩ ∧ Rd P w t l := by
  obtain ⟨hr, _, hw⟩ := h
  obtain ⟨cs, rfl, _⟩ := okWide_struct ht hw
  exact ⟨cs.toList, rfl, hr⟩

theorem Arg.array {n : Nat} {e : TypeId} {v : Value} (h : Arg P w t v) (ht : P.underlying t = some (.array n e)) : ∃ l : List Value, v = .agg ⟨l⟩ ∧ Rd P w t l := by
  obtain ⟨hr, _, hw⟩ := h
  simp only [Value.okWide, ht] at hw
  obtain ⟨cs, rfl, _⟩ := hw
  exact ⟨cs.toList, rfl, hr⟩
theorem Rd.item {n : Nat} {e : TypeId} (h : Rd P w t cs) (ht : P.underlying t = some (.array n e)) (i : Nat) (hi : i < n) {c : Nat} {l : List Value} (hc : P.cellsOf e = c) (hl : (cs.drop (i * c)).take c = l) : Rd P w e l := by
  have := (h.array ht).2 i hi
  rw [hc, hl] at this
  exact this

theorem wf_i64 {n : Int} (h : (Lit.int .i64 n).wf = true) : -9223372036854775808 ≤ n ∧ n ≤ 9223372036854775807 := by
  simp [Lit.wf, IntKind.min, IntKind.max, IntKind.signed, IntKind.bits] at h; omega
theorem wf_u8 {n : Int} (h : (Lit.int .u8 n).wf = true) : 0 ≤ n ∧ n ≤ 255 := by
  simp [Lit.wf, IntKind.min, IntKind.max, IntKind.signed, IntKind.bits] at h; omega
end
theorem wf_u64 {n : Int} (h : (Lit.int .u64 n).wf = true) : 0 ≤ n ∧ n ≤ 18446744073709551615 := by
  simp [Lit.wf, IntKind.min, IntKind.max, IntKind.signed, IntKind.bits] at h; omega
theorem wf_u16 {n : Int} (h : (Lit.int .u16 n).wf = true) : 0 ≤ n ∧ n ≤ 65535 := by
  simp [Lit.wf, IntKind.min, IntKind.max, IntKind.signed, IntKind.bits] at h; omega
/- The row -/
def rowed (P : Program) (ts : List TypeId) : Bool := ts.all fun t => P.readableRec t && decide (t < P.types.size)
theorem trodAll_below {H : Type} {enc : TypeId × Value → H} {P : Program} (hl : laidOutB P = true) {W W' : World} (hb : Below W.heap.size W W') :
    ∀ {ts : List TypeId} {vs : List Value} {ds : List (DataW H)} {ps : List MemPlace}, rowed P ts = true → (∀ x ∈ ps, x.block < W.heap.size) → DataW.TrodAll enc P W 0 (fun _ => true) true ts vs ds ps →
      DataW.TrodAll enc P W' 0 (fun b => decide (b < W.heap.size)) true ts vs ds ps
  | [], [], [], _, _, _, h => h
  | t :: ts, v :: vs, d :: ds, _, hr, hp, h => by
    obtain ⟨p, q, h1, h2, rfl⟩ := h
    unfold rowed at hr
    simp only [List.all_cons, Bool.and_eq_true, decide_eq_true_eq] at hr
    exact ⟨p, q, Below.trod hl hr.1.1 hr.1.2 h1 hb (fun x hx => hp x (List.mem_append_left _ hx)), trodAll_below hl hb hr.2 (fun x hx => hp x (List.mem_append_right _ hx)) h2, rfl⟩
  | [], _ :: _, _, _, _, _, h => by cases h
  | [], [], _ :: _, _, _, _, h => by cases h
  | _ :: _, [], _, _, _, _, h => by cases h
  | _ :: _, _ :: _, [], _, _, _, h => by cases h
theorem trodAll_len {H : Type} {enc : TypeId × Value → H} {P : Program} {W : World} : ∀ {ts : List TypeId} {vs : List Value} {ds : List (DataW H)} {ps : List MemPlace}, DataW.TrodAll enc P W 0 (fun _ => true) true ts vs ds ps →
    vs.length = ts.length ∧ ds.length = ts.length ∧ ∀ (j : Nat) t v, ts[j]? = some t → vs[j]? = some v → Rd P W t v.cells.toList
  | [], [], [], _, _ => ⟨rfl, rfl, fun _ _ _ h => by simp at h⟩
  | t :: ts, v :: vs, d :: ds, _, h => by
    obtain ⟨p, q, ⟨fuel, h1⟩, h2, rfl⟩ := h
    obtain ⟨a, b, c⟩ := trodAll_len h2
    refine ⟨by simp [a], by simp [b], fun j t' v' ht hv => ?_⟩
    cases j with
    | zero =>
      simp at ht hv
      subst ht; subst hv
      exact ⟨H, enc, 0, _, true, fuel, _, h1⟩
    | succ j => exact c j t' v' (by simpa using ht) (by simpa using hv)
  | [], _ :: _, _, _, h => by cases h
  | [], [], _ :: _, _, h => by cases h
  | _ :: _, [], _, _, h => by cases h
  | _ :: _, _ :: _, [], _, h => by cases h

/-- The contract of a law: whatever comes in that can be read, it returns true, and only new blocks have turned. -/
def Law (P : Program) (f : FuncId) (ts : List TypeId) : Prop := ∀ (W : World) (args : List Value), args.length = ts.length →
  (∀ (j : Nat) t v, ts[j]? = some t → args[j]? = some v → Arg P W t v) → Ca P f (List.toArray args) W fun e W' => e = .returned (.bool true) ∧ Kp No W W'

theorem law_lifted {C : Checked} {os : Os} {f : FuncId} {fn : Func} {s : ChangeSpec} {conds : List PathCond} {bt : TypeId} {H : Type} {enc : TypeId × Value → H}
    (own : ownKnob C.prog.godebug = none) (started : os.Started) (noInit : C.prog.inits.idxOf? f = none) (hfn : C.prog.funcs[f]? = some fn)
    (witness : ∃ (w : World) (tape : Tape) (i : Input), w.os = os ∧ (w.forCall tape i).Shaped C.prog ∧ i.vars = [] ∧ Input.okWide C.prog (w.forCall tape i) .any w.heap.size f i ∧
      s.pre6 enc C.prog fn conds false (w.forCall tape i).memory i.args ∧ (({} : Assume)).holds C.prog (lone (Frame.enter C.prog f i.args .normal) [] (w.forCall tape i)))
    (hl : laidOutB C.prog = true) (hp : rowed C.prog fn.params.toList = true) (hr : fn.resultTypes = #[bt]) (hbt : C.prog.underlying bt = some .bool) (hv : s.vars = [])
    (hs : ∀ ds : List (DataW H), ds.length = fn.params.size → s.fn H ds = { results := [.lit (.bool true)], args := ds })
    (law : Law C.prog f fn.params.toList) :
    ReturnsInHanded {} C os f .any (s.pre6 enc C.prog fn conds false) (s.post enc C.prog fn false true false false) := by
  refine returnsInHanded_of_change own started noInit hfn witness ?_
  intro W base args ds gs before hval hW _ _
  have hW' := hW
  obtain ⟨p, q, hA, hV, rfl, hfz, hnd⟩ := hW
  obtain ⟨hlen, hdl, hrd⟩ := trodAll_len hA
  rw [hv] at hV
  have hgs : gs = [] ∧ q = [] := by
    cases gs with
    | nil => exact ⟨rfl, hV⟩
    | cons _ _ => exact hV.elim
  obtain ⟨rfl, rfl⟩ := hgs
  have hc := law W args.toList hlen (fun j t v ht hv => ⟨hrd j t v ht hv, base, hval j t v (by simpa using ht) (by simpa using hv)⟩)
  refine (hc.calls).mono ?_
  rintro e W' ⟨m, w'', rfl, rfl, hk⟩
  have hb : Below W.heap.size W (w''.drewN m) := (hk.trans (Kp.drewN m)).below
  have hlt : ∀ x ∈ p ++ [], x.block < W.heap.size := fun x hx => hW'.lt x hx
  have hs' : s.fn H (ds ++ []) = { results := [.lit (.bool true)], args := ds } := by rw [List.append_nil]; exact hs ds (by simpa using hdl)
  have hres : DataW.TrodAll enc C.prog (w''.drewN m) W.heap.size (fun _ => false) false fn.resultTypes.toList ((Value.bool true).resultList fn.resultTypes.size) [.lit (.bool true)] [] := by
    rw [hr]
    refine ⟨[], [], ⟨1, ?_⟩, rfl, rfl⟩
    simp [DataW.trod, hbt, Value.cells]
  refine ⟨_, rfl, ds, [], p ++ [], [], p, [], hW', ?_, ?_, ?_, World.keptBut_mono ?_ (hb.frame (· ∈ p ++ [])), fun h => by cases h⟩
  · rw [hs']; exact hres
  · rw [hs']; exact trodAll_below hl hb hp (fun x hx => hlt x (by simpa using hx)) hA
  · rw [hs', hv]; exact rfl
  · intro x hx; exact ⟨hx, .inr (.inl (by simpa using hx))⟩
end Go.Vc
