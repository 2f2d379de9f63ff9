/- Verification conditions: one operation's condition suffices. -/
import Derived.Test.YtljipmhkpnigkaaV1
namespace Go.Vc
section
variable {P : Program}

def SOk (S : Option (World → Prop)) (w : World) : Prop := match S with
  | none => True
  | some s => s w
def SInv (S : Option (World → Prop)) : Prop := ∀ w n, SOk S w → SOk S (w.drewN n)
theorem SInv.none_ : SInv none := fun _ _ _ => trivial

def Good (P : Program) (o : Oper) (ρ : Operand → Value) (w : World) (K : Value → Option (World → Prop) → Prop) : Prop :=
  ∃ v S, K v S ∧ SOk S w ∧ SInv S ∧ ∀ w', SOk S w' → (execOp ρ o).run P w' = .ok (.value v) w'

theorem Good.pure {o : Oper} {ρ : Operand → Value} {w : World} {K : Value → Option (World → Prop) → Prop} (v : Value) (hK : K v none)
    (h : ∀ w', (execOp ρ o).run P w' = .ok (.value v) w') : Good P o ρ w K := ⟨v, none, hK, trivial, SInv.none_, fun w' _ => h w'⟩

theorem vcPure_spec {o : Oper} {ρ : Operand → Value} {w : World} {K : Value → Option (World → Prop) → Prop} (h : vcPure P o ρ K) : Good P o ρ w K := by
  obtain ⟨n, hK, hr⟩ := semPure_spec h
  cases n <;> simp only [nextV] at hK
  exact Good.pure _ hK hr

theorem loInt_spec {d : Int} {x : Option Value} {F : Int → Prop} (h : loInt d x F) : (x = none ∧ F d) ∨ ∃ k i, x = some (.int k i) ∧ F i := by
  unfold loInt at h
  split at h
  · exact .inl ⟨rfl, h⟩
  · exact .inr ⟨_, _, rfl, h⟩
  · exact h.elim

theorem NilOk.spec {p : Option Addr} {F : Addr → Prop} (h : NilOk p F) : ∃ a, p = some a ∧ F a := by
  cases p with
  | none => exact h.elim
  | some a => exact ⟨a, rfl, h⟩
theorem Br.spec {b : Bool} {x y : Prop} (h : Br b x y) : (b = true ∧ x) ∨ (b = false ∧ y) := by
  cases b
  · exact .inr ⟨rfl, h⟩
  · exact .inl ⟨rfl, h⟩

theorem Row.mono {w w' : World} {a : Addr} (hc : ∀ p, w'.cell? p = w.cell? p) : ∀ {l : List Value} {i : Nat}, Row w a i l → Row w' a i l
  | [], _, _ => trivial
  | _ :: _, _, h => ⟨(hc _).trans h.1, Row.mono hc h.2⟩
theorem Row.drewN {w : World} {a : Addr} (n : Nat) {l : List Value} {i : Nat} (h : Row w a i l) : Row (w.drewN n) a i l := Row.mono (w := w) (w' := w.drewN n) (fun _ => rfl) h

theorem run_loadCellsFrom {w : World} {a : Addr} : ∀ {l : List Value} {i : Nat} (acc : Array Value), Row w a i l → (loadCellsFrom a i l.length acc).run P w = .ok (acc ++ l.toArray) w
  | [], _, acc, _ => by simp [loadCellsFrom]
  | v :: r, i, acc, h => by
    have := run_loadCellsFrom (l := r) (acc.push v) h.2
    simp only [List.length_cons, loadCellsFrom, Sem.run_bind, load, Sem.run, h.1, Result.andThen_ok]
    rw [this]
    simp
theorem run_loadVar_row {w : World} {a : Addr} {t : TypeId} {l : List Value} (ht : isAggT P t = true) (hl : l.length = sizeT P t) (hi : P.info? t ≠ none) (h : Row w a 0 l) :
    (loadVar t a).run P w = .ok (.agg ⟨l⟩) w := by
  have hagg : (isAgg t).run P w = .ok true w := by
    unfold isAggT at ht
    unfold isAgg
    split at ht
    · rename_i hu; simp [run_underlying hu]
    · rename_i hu; simp [run_underlying hu]
    · cases ht
  obtain ⟨inf, hinf⟩ := Option.ne_none_iff_exists'.1 hi
  have hs : (sizeOf t).run P w = .ok l.length w := by
    simp [sizeOf, typeInfo, hinf, hl, sizeT]
  unfold loadVar
  simp only [Sem.run_bind, hagg, Result.andThen_ok, if_true, hs, loadCells]
  rw [run_loadCellsFrom #[] h]
  simp
theorem run_loadVar_cell {w : World} {a : Addr} {t : TypeId} {v : Value} (ht : isAggT P t = false) (hi : P.underlying t ≠ none) (h : w.cell? a = some v) :
    (loadVar t a).run P w = .ok v w := by
  obtain ⟨d, hd⟩ := Option.ne_none_iff_exists'.1 hi
  have hagg : (isAgg t).run P w = .ok false w := by
    unfold isAggT at ht
    rw [hd] at ht
    unfold isAgg
    cases d <;> simp_all [run_underlying hd]
  unfold loadVar
  simp [hagg, load, Sem.run, h]


theorem exec_load {o : Oper} {ρ : Operand → Value} {t : TypeId} {x : Operand} {a : Addr} {v : Value} {w : World} (ho : o.op = .load t x) (hx : ρ x = .pointer (some a))
    (h : (loadVar t a).run P w = .ok v w) : (execOp ρ o).run P w = .ok (.value v) w := by
  simp [execOp, ho, hx, Instr.loadAt, Instr.sureAddr, h]

theorem eqlNil_val (neg b : Bool) : eqlNil neg b = .bool (if neg then !b else b) := by cases neg <;> rfl

theorem run_equal_ptr_nil {t : TypeId} {e : TypeId} {p : Option Addr} (hu : P.underlying t = some (.pointer e)) (w : World) : (Op.equal t (.pointer p) (.pointer none)).run P w = .ok p.isNone w := by
  have h : ∀ d, (Op.equalIn (d + 1) t (.pointer p) (.pointer none)).run P w = .ok p.isNone w := fun d => by cases p <;> simp [Op.equalIn, run_underlying hu]
  exact h 9999
theorem run_equal_slice_nil {t : TypeId} {e : TypeId} {p : Option Addr} {n c n' c' : Nat} (hu : P.underlying t = some (.slice e)) (w : World) : (Op.equal t (.slice p n c) (.slice none n' c')).run P w = .ok p.isNone w := by
  have h : ∀ d, (Op.equalIn (d + 1) t (.slice p n c) (.slice none n' c')).run P w = .ok p.isNone w := fun d => by cases p <;> simp [Op.equalIn, run_underlying hu]
  exact h 9999
theorem run_equal_map_nil {t : TypeId} {k e : TypeId} {p : Option Nat} (hu : P.underlying t = some (.map k e)) (w : World) : (Op.equal t (.map p) (.map none)).run P w = .ok p.isNone w := by
  have h : ∀ d, (Op.equalIn (d + 1) t (.map p) (.map none)).run P w = .ok p.isNone w := fun d => by cases p <;> simp [Op.equalIn, run_underlying hu]
  exact h 9999

theorem exec_eql {o : Oper} {ρ : Operand → Value} {op : BinOp} {t yt : TypeId} {x y : Operand} {neg b : Bool} (ho : o.op = .binOp op t x y yt)
    (hg : ∀ w, (eqGuard op t x y (ρ x) (ρ y)).run P w = .ok () w) (hb : ∀ w, (binOp op t (ρ x) (ρ y)).run P w = .ok (eqlNil neg b) w) :
    ∀ w, (execOp ρ o).run P w = .ok (.value (eqlNil neg b)) w := by
  intro w
  simp only [execOp, ho]
  simp [hg, hb]

theorem Ev.def_ {α : Type} {x : α} {F : α → Prop} (h : Ev x F) : F x := h
theorem hasT_info' {t : TypeId} (h : hasT P t = true) : P.info? t ≠ none := by
  unfold hasT at h
  split at h
  · rename_i h1 _; rw [h1]; simp
  · cases h
theorem hasT_und' {t : TypeId} (h : hasT P t = true) : P.underlying t ≠ none := by
  unfold hasT at h
  split at h
  · rename_i h1; rw [h1]; simp
  · cases h
theorem partC_spec {t : TypeId} {cs : Array Value} {off : Nat} {K : Value → Prop} (h : partC P t cs off K) : ∃ v, K v ∧ ∀ w, (part t cs off).run P w = .ok v w := by
  obtain ⟨ht, h⟩ := Need.spec h
  obtain ⟨d, hd⟩ := Option.ne_none_iff_exists'.1 (hasT_und' ht)
  obtain ⟨inf, hinf⟩ := Option.ne_none_iff_exists'.1 (hasT_info' ht)
  have hs : ∀ w, (sizeOf t).run P w = .ok (sizeT P t) w := fun w => by simp [sizeOf, typeInfo, hinf, sizeT]
  cases ha : isAggT P t with
  | true =>
    rw [ha] at h
    have hagg : ∀ w, (isAgg t).run P w = .ok true w := fun w => by
      unfold isAggT at ha
      unfold isAgg
      split at ha
      · rename_i hu; simp [run_underlying hu]
      · rename_i hu; simp [run_underlying hu]
      · cases ha
    refine ⟨_, h, fun w => ?_⟩
    have he : cs.extract off (off + sizeT P t) = ⟨(cs.toList.drop off).take (sizeT P t)⟩ := by
      apply Array.ext'
      simp [List.extract]
    simp only [part, Sem.run_bind, hagg, Result.andThen_ok, if_true, hs, Sem.run_pure, he]
  | false =>
    rw [ha] at h
    have hagg : ∀ w, (isAgg t).run P w = .ok false w := fun w => by
      unfold isAggT at ha
      rw [hd] at ha
      unfold isAgg
      cases d <;> simp_all [run_underlying hd]
    cases hc : cs.toList[off]? with
    | none => rw [hc] at h; exact h.elim
    | some v =>
      rw [hc] at h
      rw [Array.getElem?_toList] at hc
      exact ⟨v, h, fun w => by simp [part, hagg, hc]⟩
theorem eqFs_spec {rec_ : TypeId → Value → Value → (Bool → Prop) → Prop} {d : Nat} (hr : ∀ t x y K, rec_ t x y K → ∃ b, K b ∧ ∀ e w, (Op.equalIn (d + e) t x y).run P w = .ok b w) {xs ys : Array Value} :
    ∀ {fs : List Field} {K : Bool → Prop}, eqFs P rec_ xs ys fs K → ∃ b, K b ∧ ∀ e w, (Op.eqFields (d + e) xs ys fs).run P w = .ok b w
  | [], _, h => ⟨true, h, fun e w => by simp [Op.eqFields]⟩
  | f :: fs, K, h => by
    unfold eqFs Ev at h
    cases hn : decide (f.name ≠ "_") with
    | false =>
      rw [hn] at h
      obtain ⟨b, hK, hb⟩ := eqFs_spec hr h
      refine ⟨b, hK, fun e w => ?_⟩
      have := of_decide_eq_false hn
      simp only [Op.eqFields, if_neg this]
      exact hb e w
    | true =>
      rw [hn] at h
      obtain ⟨a, h, ha⟩ := partC_spec h
      obtain ⟨a', h, ha'⟩ := partC_spec h
      obtain ⟨r, h, hr1⟩ := hr _ _ _ _ h
      obtain ⟨b, hK, hb⟩ := eqFs_spec hr h
      refine ⟨_, hK, fun e w => ?_⟩
      have := of_decide_eq_true hn
      simp only [Op.eqFields, if_pos this, Sem.run_bind, ha, ha', hr1, Result.andThen_ok]
      cases r
      · simp
      · simpa using hb e w
theorem eqIs_spec {rec_ : TypeId → Value → Value → (Bool → Prop) → Prop} {d : Nat} (hr : ∀ t x y K, rec_ t x y K → ∃ b, K b ∧ ∀ e w, (Op.equalIn (d + e) t x y).run P w = .ok b w) {e : TypeId} {n : Nat} {xs ys : Array Value} :
    ∀ {js : List Nat} {K : Bool → Prop}, eqIs P rec_ e n xs ys js K → ∃ b, K b ∧ ∀ k w, (Op.eqItems (d + k) e n xs ys js).run P w = .ok b w
  | [], _, h => ⟨true, h, fun k w => by simp [Op.eqItems]⟩
  | j :: js, K, h => by
    unfold eqIs at h
    obtain ⟨a, h, ha⟩ := partC_spec h
    obtain ⟨a', h, ha'⟩ := partC_spec h
    obtain ⟨r, h, hr1⟩ := hr _ _ _ _ h
    obtain ⟨b, hK, hb⟩ := eqIs_spec hr h
    refine ⟨_, hK, fun k w => ?_⟩
    simp only [Op.eqItems, Sem.run_bind, ha, ha', hr1, Result.andThen_ok]
    cases r
    · simp
    · simpa using hb k w
theorem eqC_spec : ∀ {d : Nat} {t : TypeId} {x y : Value} {K : Bool → Prop}, eqC P d t x y K → ∃ b, K b ∧ ∀ e w, (Op.equalIn (d + e) t x y).run P w = .ok b w
  | 0, _, _, _, _, h => h.elim
  | d + 1, t, x, y, K, h => by
    have hde : ∀ e, d + 1 + e = (d + e) + 1 := fun e => by omega
    unfold eqC at h
    split at h
    · rename_i hu
      split at h
      · exact ⟨_, h, fun e w => by rw [hde]; exact run_equalIn_bool w _ _ _ _ hu⟩
      · exact h.elim
    · rename_i hu
      split at h
      · split at h
        · rename_i hk
          have hk := of_decide_eq_true hk
          subst hk
          exact ⟨_, h, fun e w => by rw [hde]; exact run_equalIn_int w _ _ _ _ _ _ hu⟩
        · exact h.elim
      · exact h.elim
    · rename_i hu
      split at h
      · exact ⟨_, h, fun e w => by rw [hde]; exact run_equalIn_string w _ _ _ _ hu⟩
      · exact h.elim
    · rename_i fs hu
      split at h
      · replace h := Ev.def_ h
        cases hs : P.stoodInHeld t with
        | true => rw [hs] at h; exact h.elim
        | false =>
          rw [hs] at h
          have hf : P.fieldsOf t = fs := by unfold Program.fieldsOf; rw [hu]
          obtain ⟨b, hK, hb⟩ := eqFs_spec (d := d) (fun t x y K hk => eqC_spec hk) h
          refine ⟨b, hK, fun e w => ?_⟩
          rw [hde, run_equalIn_struct w (d + e) t _ _ (by rw [hf]; exact hu) hs, hf]
          exact hb e w
      · exact h.elim
    · rename_i n e0 hu
      split at h
      · obtain ⟨ht, h⟩ := Need.spec h
        obtain ⟨inf, hinf⟩ := Option.ne_none_iff_exists'.1 (hasT_info' ht)
        obtain ⟨b, hK, hb⟩ := eqIs_spec (d := d) (fun t x y K hk => eqC_spec hk) h
        refine ⟨b, hK, fun e w => ?_⟩
        have hc : P.cellsOf e0 = sizeT P e0 := by unfold Program.cellsOf sizeT; rw [hinf]; rfl
        rw [hde, run_equalIn_array w (d + e) _ _ hu hinf, hc]
        exact hb e w
      · exact h.elim
    · exact h.elim
theorem vcEql_spec {o : Oper} {ρ : Operand → Value} {w : World} {K : Value → Option (World → Prop) → Prop} {op : BinOp} {t yt : TypeId} {x y : Operand} {neg : Bool}
    (ho : o.op = .binOp op t x y yt) (hop : op = if neg then .neq else .eql) (h : vcEql P neg o ρ t (ρ x) (ρ y) K) : Good P o ρ w K := by
  unfold vcEql at h
  split at h
  · rename_i b a p hb ha
    split at h
    · rename_i e hu
      refine Good.pure _ h (exec_eql ho ?_ ?_)
      · intro w; rw [ha, hb]; cases neg <;> subst hop <;> simp [eqGuard]
      · intro w; rw [ha, hb]; cases neg <;> subst hop <;> simp [binOp, run_equal_ptr_nil hu, eqlNil]
    · exact h.elim
  · rename_i b a _ _ p _ _ hb ha
    split at h
    · rename_i e hu
      refine Good.pure _ h (exec_eql ho ?_ ?_)
      · intro w; rw [ha, hb]; cases neg <;> subst hop <;> simp [eqGuard]
      · intro w; rw [ha, hb]; cases neg <;> subst hop <;> simp [binOp, run_equal_slice_nil hu, eqlNil]
    · exact h.elim
  · rename_i b a p hb ha
    split at h
    · rename_i k e hu
      refine Good.pure _ h (exec_eql ho ?_ ?_)
      · intro w; rw [ha, hb]; cases neg <;> subst hop <;> simp [eqGuard]
      · intro w; rw [ha, hb]; cases neg <;> subst hop <;> simp [binOp, run_equal_map_nil hu, eqlNil]
    · exact h.elim
  · rename_i b a ys xs hb ha
    replace h := Ev.def_ h
    cases hg : P.eqGuardType P.depth t with
    | true => rw [hg] at h; exact h.elim
    | false =>
      rw [hg] at h
      obtain ⟨r, hK, hr⟩ := eqC_spec h
      refine Good.pure _ hK (exec_eql ho ?_ ?_)
      · intro w; rw [ha, hb]; exact run_eqGuard_agg w _ _ _ _ _ _ hg
      · intro w; rw [ha, hb]
        have := hr 9900 w
        cases neg <;> subst hop <;> simp only [Bool.false_eq_true, if_false, if_true, run_eql_struct, run_neq_struct] <;> rw [this] <;> simp [eqlNil]
  · exact vcPure_spec h

theorem exec_bin {o : Oper} {ρ : Operand → Value} {op : BinOp} {t yt : TypeId} {x y : Operand} {v : Value} (ho : o.op = .binOp op t x y yt) (h1 : op ≠ .eql) (h2 : op ≠ .neq)
    (hb : ∀ w, (binOp op t (ρ x) (ρ y)).run P w = .ok v w) : ∀ w, (execOp ρ o).run P w = .ok (.value v) w := by
  intro w
  simp only [execOp, ho]
  cases op <;> first | exact absurd rfl h1 | exact absurd rfl h2 | simp [eqGuard, hb]

theorem vcBin_spec {o : Oper} {ρ : Operand → Value} {w : World} {K : Value → Option (World → Prop) → Prop} {op : BinOp} {t yt : TypeId} {x y : Operand}
    (ho : o.op = .binOp op t x y yt) (h : vcBin P o ρ op t (ρ x) (ρ y) K) : Good P o ρ w K := by
  unfold vcBin at h
  split at h
  · split at h
    · rename_i k a k' b hx hy
      split at h
      · rename_i hk
        have hk : k = k' := of_decide_eq_true hk
        subst hk
        refine Good.pure _ h.2.out (exec_bin ho (by simp) (by simp) fun w => ?_)
        rw [hx, hy]; simp [binOp, Op.intDiv, h.1]
      · exact h.elim
    · exact h.elim
  · split at h
    · rename_i k a k' b hx hy
      split at h
      · rename_i hk
        have hk : k = k' := of_decide_eq_true hk
        subst hk
        refine Good.pure _ h.2.out (exec_bin ho (by simp) (by simp) fun w => ?_)
        rw [hx, hy]; simp [binOp, Op.intDiv, h.1]
      · exact h.elim
    · exact h.elim
  · split at h
    · rename_i k a k' b hx hy
      refine Good.pure _ h.2.out (exec_bin ho (by simp) (by simp) fun w => ?_)
      rw [hx, hy]; simp [binOp, Op.shift, Int.not_lt.2 h.1]
    · exact h.elim
  · split at h
    · rename_i k a k' b hx hy
      refine Good.pure _ h.2.out (exec_bin ho (by simp) (by simp) fun w => ?_)
      rw [hx, hy]; simp [binOp, Op.shift, Int.not_lt.2 h.1]
    · exact h.elim
  · split at h
    · rename_i a b hx hy
      refine Good.pure _ h.2 (exec_bin ho (by simp) (by simp) fun w => ?_)
      have h1 := h.1
      rw [hx, hy]; simp only [binOp, Op.stringOp]
      rw [if_neg (by omega)]
      rfl
    · rename_i k a k' b hx hy
      split at h
      · rename_i hk
        have hk : k = k' := of_decide_eq_true hk
        subst hk
        refine Good.pure _ h.out (exec_bin ho (by simp) (by simp) fun w => ?_)
        rw [hx, hy]; simp [binOp, Op.intArith]
      · exact h.elim
    · exact vcPure_spec h
  · split at h
    · rename_i k a k' b hx hy
      split at h
      · rename_i hk
        have hk : k = k' := of_decide_eq_true hk
        subst hk
        refine Good.pure _ h.out (exec_bin ho (by simp) (by simp) fun w => ?_)
        rw [hx, hy]; simp [binOp, Op.intArith]
      · exact h.elim
    · exact vcPure_spec h
  · split at h
    · rename_i k a k' b hx hy
      split at h
      · rename_i hk
        have hk : k = k' := of_decide_eq_true hk
        subst hk
        refine Good.pure _ h.out (exec_bin ho (by simp) (by simp) fun w => ?_)
        rw [hx, hy]; simp [binOp, Op.intArith]
      · exact h.elim
    · exact vcPure_spec h
  · exact vcEql_spec (neg := false) ho rfl h
  · exact vcEql_spec (neg := true) ho rfl h
  · exact vcPure_spec h

theorem run_sliceBound {v : Value} {k : IntKind} {i : Int} {y : Nat} {code : BoundsCode} {w : World} (hv : v = .int k i) (h0 : 0 ≤ i) (h1 : i ≤ y) : (Instr.sliceBound v y code).run P w = .ok i.toNat w := by
  subst hv
  simp [Instr.sliceBound, asIntOf, h0, h1]

theorem run_sliceBounds {sl : Bool} {len cap : Nat} {lo hi mx : Option Value} {l h m : Int} {w : World}
    (hl : (lo = none ∧ l = 0) ∨ ∃ k, lo = some (.int k l)) (hh : (hi = none ∧ h = len) ∨ ∃ k, hi = some (.int k h)) (hm : (mx = none ∧ m = cap) ∨ ∃ k, mx = some (.int k m))
    (h0 : 0 ≤ l) (h1 : l ≤ h) (h2 : h ≤ m) (h3 : m ≤ cap) (h4 : mx.isSome = true → hi.isSome = true) :
    (Instr.sliceBounds sl len cap lo hi mx).run P w = .ok (l.toNat, h.toNat, m.toNat) w := by
  have hb : ∀ (v : Value) (k : IntKind) (i : Int) (y : Nat) (code : BoundsCode), v = .int k i → 0 ≤ i → i ≤ y → (Instr.sliceBound v y code).run P w = .ok i.toNat w := fun v k i y code hv h0 h1 => run_sliceBound hv h0 h1
  have hm0 : 0 ≤ m := by omega
  have hh0 : 0 ≤ h := by omega
  rcases hm with ⟨rfl, rfl⟩ | ⟨km, rfl⟩
  · rcases hh with ⟨rfl, rfl⟩ | ⟨kh, rfl⟩
    · rcases hl with ⟨rfl, rfl⟩ | ⟨kl, rfl⟩
      · simp [Instr.sliceBounds]
      · simp [Instr.sliceBounds, hb _ kl l len _ rfl h0 h1]
    · have e1 := fun code => hb (.int kh h) kh h cap code rfl hh0 h2
      rcases hl with ⟨rfl, rfl⟩ | ⟨kl, rfl⟩
      · simp [Instr.sliceBounds, e1]
      · have e2 := fun code => hb (.int kl l) kl l h.toNat code rfl h0 (by omega)
        simp [Instr.sliceBounds, e1, e2]
  · rcases hh with ⟨rfl, rfl⟩ | ⟨kh, rfl⟩
    · simp at h4
    · have e0 := fun code => hb (.int km m) km m cap code rfl hm0 h3
      have e1 := fun code => hb (.int kh h) kh h m.toNat code rfl hh0 (by omega)
      rcases hl with ⟨rfl, rfl⟩ | ⟨kl, rfl⟩
      · simp [Instr.sliceBounds, e0, e1]
      · have e2 := fun code => hb (.int kl l) kl l h.toNat code rfl h0 (by omega)
        simp [Instr.sliceBounds, e0, e1, e2]

theorem hasT_info {t : TypeId} (h : hasT P t = true) : P.info? t ≠ none := by
  unfold hasT at h
  split at h
  · rename_i h1 _; rw [h1]; simp
  · cases h
theorem hasT_und {t : TypeId} (h : hasT P t = true) : P.underlying t ≠ none := by
  unfold hasT at h
  split at h
  · rename_i h1; rw [h1]; simp
  · cases h
theorem run_sizeOfT {e : TypeId} (hi : P.info? e ≠ none) (w : World) : (sizeOf e).run P w = .ok (sizeT P e) w := by
  obtain ⟨inf, hinf⟩ := Option.ne_none_iff_exists'.1 hi
  simp [sizeOf, typeInfo, hinf, sizeT]

theorem optV_map (ρ : Operand → Value) (x : Option Operand) : optV ρ x = x.map ρ := by cases x <;> rfl
theorem argsL_map (ρ : Operand → Value) (l : List Operand) : argsL ρ l = l.map ρ := by
  induction l with
  | nil => rfl
  | cons x r ih => simp [argsL, ih]
theorem isNone_of_loInt {d : Int} {x : Option Value} {F : Int → Prop} (h : loInt d x F) : ∃ i, ((x = none ∧ i = d) ∨ ∃ k, x = some (.int k i)) ∧ F i := by
  rcases loInt_spec h with ⟨rfl, h⟩ | ⟨k, i, rfl, h⟩
  · exact ⟨_, .inl ⟨rfl, rfl⟩, h⟩
  · exact ⟨_, .inr ⟨k, rfl⟩, h⟩

theorem vcSlice_spec {o : Oper} {ρ : Operand → Value} {w : World} {K : Value → Option (World → Prop) → Prop} {t : TypeId} {x : Operand} {lo hi mx : Option Operand}
    (ho : o.op = .slice t x lo hi mx)
    (h : vcSlice P t (ρ x) (optV ρ lo) (optV ρ hi) (optV ρ mx) K) : Good P o ρ w K := by
  rw [optV_map, optV_map, optV_map] at h
  have hex : ∀ (v : Value), (∀ w', (Instr.sliceAt t (ρ x) (lo.map ρ) (hi.map ρ) (mx.map ρ)).run P w' = .ok v w') → ∀ w', (execOp ρ o).run P w' = .ok (.value v) w' := by
    intro v hv w'
    simp [execOp, ho, hv]
  unfold vcSlice at h
  split at h
  · rename_i hu
    split at h
    · rename_i s hx hm
      obtain ⟨l, hl, h⟩ := isNone_of_loInt h
      obtain ⟨hh, hhi, ⟨h0, h1, h2⟩, hK⟩ := isNone_of_loInt h
      refine Good.pure _ hK (hex _ fun w' => ?_)
      have hb := run_sliceBounds (P := P) (sl := false) (len := s.size) (cap := s.size) (lo := lo.map ρ) (hi := hi.map ρ) (mx := none) (l := l) (h := hh) (m := s.size) (w := w') hl hhi (.inl ⟨rfl, rfl⟩) h0 h1 h2 (Int.le_refl _) (by simp)
      rw [hx, hm]
      simp [Instr.sliceAt, Instr.slice, run_underlying hu, hb]
    · exact h.elim
  · rename_i e hu
    obtain ⟨hinfo, h⟩ := Need.spec h
    split at h
    · rename_i p n c hx
      obtain ⟨l, hl, h⟩ := isNone_of_loInt h
      obtain ⟨hh, hhi, h⟩ := isNone_of_loInt h
      obtain ⟨m, hmi, ⟨h0, h1, h2, h3, h4⟩, hK⟩ := isNone_of_loInt h
      refine Good.pure _ hK (hex _ fun w' => ?_)
      have hb := run_sliceBounds (P := P) (sl := true) (w := w') hl hhi hmi h0 h1 h2 h3 h4
      rw [hx]
      simp [Instr.sliceAt, Instr.slice, run_underlying hu, hb, run_sizeOfT (hasT_info hinfo)]
    · exact h.elim
  · rename_i n e hu
    obtain ⟨hinfo, h⟩ := Need.spec h
    split at h
    · rename_i p hx
      obtain ⟨a, rfl, h⟩ := NilOk.spec h
      obtain ⟨l, hl, h⟩ := isNone_of_loInt h
      obtain ⟨hh, hhi, h⟩ := isNone_of_loInt h
      obtain ⟨m, hmi, ⟨h0, h1, h2, h3, h4⟩, hK⟩ := isNone_of_loInt h
      refine Good.pure _ hK (hex _ fun w' => ?_)
      have hb := run_sliceBounds (P := P) (sl := false) (w := w') hl hhi hmi h0 h1 h2 h3 h4
      rw [hx]
      simp [Instr.sliceAt, Instr.sureAddr, run_underlying hu, hb, run_sizeOfT (hasT_info hinfo)]
    · exact h.elim
  · exact h.elim

theorem vcNon_spec {o : Oper} {ρ : Operand → Value} {w : World} {K : Value → Option (World → Prop) → Prop} (h : vcNon P o ρ w K) : Good P o ρ w K := by
  unfold vcNon at h
  split at h
  · rename_i x ho
    exact Good.pure _ h fun w' => by simp [execOp, ho]
  · rename_i x ho
    exact Good.pure _ h fun w' => by simp [execOp, ho]
  · rename_i c a b ho
    split at h
    · rename_i cb hc
      rcases Br.spec h with ⟨rfl, h⟩ | ⟨rfl, h⟩
      · exact Good.pure _ h fun w' => by simp [execOp, ho, hc, asBool]
      · exact Good.pure _ h fun w' => by simp [execOp, ho, hc, asBool]
    · exact h.elim
  · rename_i x ho
    split at h
    · rename_i p hp
      obtain ⟨a, rfl, h⟩ := NilOk.spec h
      exact Good.pure _ h fun w' => by simp [execOp, ho, hp]
    · exact vcPure_spec h
  · rename_i op t x y yt ho
    exact vcBin_spec ho h
  · rename_i t x ho
    obtain ⟨hT, h⟩ := Need.spec h
    split at h
    · rename_i p hx
      obtain ⟨a, rfl, h⟩ := NilOk.spec h
      split at h
      · rename_i hagg
        have h : exCells P (cellTys P 1000 t) fun vs => Need (Nat.beq vs.length (sizeT P t)) (Row w a 0 vs ∧ K (.agg ⟨vs⟩) (some fun w' => Row w' a 0 vs)) := h
        obtain ⟨vs, h⟩ := exCells_spec h
        obtain ⟨hl, hrow, hK⟩ := Need.spec h
        exact ⟨_, _, hK, hrow, fun w' n h' => Row.drewN n h', fun w' h' => exec_load ho hx (run_loadVar_row hagg (Nat.eq_of_beq_eq_true hl) (hasT_info hT) h')⟩
      · rename_i hagg
        have h : exCell P t fun v => w.cell? a = some v ∧ K v (some fun w' => w'.cell? a = some v) := h
        obtain ⟨v, hc, hK⟩ := exCell_spec h
        exact ⟨_, _, hK, hc, fun w' n h' => h', fun w' h' => exec_load ho hx (run_loadVar_cell hagg (hasT_und hT) h')⟩
    · exact h.elim
  · rename_i t x i ho
    split at h
    · rename_i s k i' hu hx hi
      obtain ⟨⟨h0, h1⟩, hK⟩ := h
      have hlt : i'.toNat < s.size := by omega
      have hlt2 : i'.toNat < s.data.size := hlt
      refine Good.pure _ hK fun w' => ?_
      have hs : s[i'.toNat]? = some (s.data[i'.toNat]'hlt2) := by
        rw [getElem?_pos s i'.toNat hlt]; rfl
      simp [execOp, ho, Instr.index, hx, hi, asIntOf, run_underlying hu, h0, hs]
      rw [Array.getElem?_eq_getElem hlt2]
      rfl
    · exact vcPure_spec h
  · rename_i t x i ho
    split at h
    · rename_i e p n c k i' hu hx hi
      obtain ⟨hT, h⟩ := Need.spec h
      obtain ⟨a, rfl, ⟨h0, h1⟩, hK⟩ := NilOk.spec h
      refine Good.pure _ hK fun w' => ?_
      simp [execOp, ho, Instr.indexAt, hx, hi, asIntOf, run_underlying hu, h0, h1, run_sizeOfT (hasT_info hT)]
    · rename_i n e p k i' hu hx hi
      obtain ⟨hT, h⟩ := Need.spec h
      obtain ⟨a, rfl, ⟨h0, h1⟩, hK⟩ := NilOk.spec h
      refine Good.pure _ hK fun w' => ?_
      simp [execOp, ho, Instr.indexAt, Instr.sureAddr, hx, hi, asIntOf, run_underlying hu, h0, h1, run_sizeOfT (hasT_info hT)]
    · exact h.elim
  · rename_i t x lo hi mx ho
    exact vcSlice_spec ho h
  · rename_i c ho
    split at h
    · rename_i hc
      split at h
      · rename_i k x k' y hargs
        refine Good.pure _ h.out fun w' => ?_
        rw [argsL_map] at hargs
        have : (c.args.map ρ).toList = [.int k x, .int k' y] := by simpa using hargs
        simp only [execOp, ho, resolve, hc, invoke, builtin, Sem.run_bind, Sem.run_pure, Result.andThen_ok, Builtin.max_, this]
        simp [Builtin.max2, Int.max_def]
        omega
      · exact h.elim
    · rename_i hc
      split at h
      · rename_i k x k' y hargs
        refine Good.pure _ h.out fun w' => ?_
        rw [argsL_map] at hargs
        have : (c.args.map ρ).toList = [.int k x, .int k' y] := by simpa using hargs
        simp only [execOp, ho, resolve, hc, invoke, builtin, Sem.run_bind, Sem.run_pure, Result.andThen_ok, Builtin.min_, this]
        simp [Builtin.min2, Int.min_def]
        omega
      · exact h.elim
    · exact vcPure_spec h
  · rename_i s d x ho
    split at h
    · rename_i k k' n hu hx
      obtain ⟨hT, h⟩ := Need.spec h
      refine Good.pure _ h.out fun w' => ?_
      obtain ⟨ds, hds⟩ := Option.ne_none_iff_exists'.1 (hasT_und hT)
      simp [execOp, ho, convert, run_underlying hds, run_underlying hu, hx, Conv.intToInt]
    · exact vcPure_spec h
  · exact vcPure_spec h

/- Operations with an effect -/
def Done (a : Act) (dst : Option Tmp) (K : Value → World → Prop) (a' : Act) (w' : World) : Prop := ∃ v m w'', a' = a.put dst v ∧ w' = World.drewN w'' m ∧ K v w''

theorem upon_of_value {o : Oper} {ρ : Operand → Value} {a : Act} {w w'' : World} {K : Value → World → Prop} {Q : Exit → Act → World → Prop} {v : Value} {n m : Nat}
    (he : execOp a.eval o = execOp ρ o) (hr : (execOp ρ o).run P (w.drewN n) = .ok (.value v) (w''.drewN m)) (hK : K v w'') : o.wp P a (w.drewN n) (Done a o.dst K) Q := by
  unfold Oper.wp
  rw [he, hr]
  exact ⟨v, m, w'', rfl, rfl, hK⟩
theorem upon_of_skip {o : Oper} {ρ : Operand → Value} {a : Act} {w w'' : World} {K : Value → World → Prop} {Q : Exit → Act → World → Prop} {n m : Nat}
    (he : execOp a.eval o = execOp ρ o) (hr : (execOp ρ o).run P (w.drewN n) = .ok .skip (w''.drewN m)) (hK : K undef w'') : o.wp P a (w.drewN n) (Done a o.dst K) Q := by
  unfold Oper.wp
  rw [he, hr]
  exact ⟨undef, m, w'', rfl, rfl, hK⟩

theorem tyK_spec {t : TypeId} {K : Value → World → Prop} {v : Value} {w : World} (h : tyK P t K v w) : K v w := by
  obtain ⟨u, rfl, hK⟩ := exRes_spec h
  exact hK

theorem run_storeCells {a : Addr} {n : Nat} : ∀ {l : List Value} {i : Nat} {w : World}, WrRow w a i l → (storeCells a l i).run P (w.drewN n) = .ok () ((setRow w a i l).drewN n)
  | [], _, _, _ => rfl
  | v :: r, i, w, h => by
    obtain ⟨h1, h2⟩ := h
    obtain ⟨h3, h4⟩ := NotAgg.spec h1
    have hrest : WrRow (w.setCell (a.add i) v) a (i + 1) r := by
      have : ∀ (l : List Value) (j : Nat), WrRow w a j l → WrRow (w.setCell (a.add i) v) a j l := by
        intro l
        induction l with
        | nil => intro _ _; trivial
        | cons u r ih =>
          intro j hj
          obtain ⟨g1, g2⟩ := hj
          obtain ⟨g3, ⟨x, hx⟩, g4⟩ := NotAgg.spec g1
          refine ⟨NotAgg.mk g3 ⟨?_, ?_⟩, ih _ g2⟩
          · obtain ⟨y, hy⟩ := Go.RowKit.cell?_setCell_some (w := w) (p := a.add i) (x := v) (q := a.add j) (v := x) hx
            exact ⟨y, hy⟩
          · rw [World.frozen?_setCell]; exact g4
      exact this r _ h2
    have hr := run_storeCells (n := n) hrest
    have hs := run_store_plain (P := P) (m := .plain) (k := Sem.pure ()) (w := w.drewN n) h3 h4
    simp only [storeCells, Sem.run_bind, store, hs]
    exact hr

theorem run_storeVar_row {t : TypeId} {a : Addr} {l : List Value} {n : Nat} {w : World} (hi : P.info? t ≠ none) (hl : l.length = sizeT P t) (h : WrRow w a 0 l) :
    (storeVar t a (.agg ⟨l⟩)).run P (w.drewN n) = .ok () ((setRow w a 0 l).drewN n) := by
  have := run_storeCells (P := P) (n := n) h
  unfold storeVar
  simp only [Sem.run_bind, run_sizeOfT hi, Result.andThen_ok]
  have hne : ¬ (Value.agg ⟨l⟩).cells.size ≠ sizeT P t := by simp [Value.cells, hl]
  rw [if_neg hne]
  exact this
theorem run_storeVar_cell {t : TypeId} {a : Addr} {v : Value} {n : Nat} {w : World} (hi : P.info? t ≠ none) (hl : 1 = sizeT P t) (hv : notAgg v = true) (h : Wr w a) :
    (storeVar t a v).run P (w.drewN n) = .ok () ((w.setCell a v).drewN n) := by
  have hc : v.cells = #[v] := by cases v <;> simp [Value.cells, notAgg] at hv ⊢
  have := run_storeCells (P := P) (n := n) (a := a) (i := 0) (l := [v]) (w := w) ⟨NotAgg.mk hv (by simpa [Addr.add] using h), trivial⟩
  unfold storeVar
  simp only [Sem.run_bind, run_sizeOfT hi, Result.andThen_ok, hc]
  rw [if_neg (by simp [← hl])]
  simpa [setRow, Addr.add] using this

theorem calleeOk_run {f : FuncId} (h : calleeOk P f = true) (args : Array Value) (w : World) : (callFunc f args).run P w = .ok (.enter f args) w := by
  unfold calleeOk at h
  split at h
  · rename_i fn hf
    split at h
    · cases h
    · rename_i hname
      have hn : ¬ fn.name = "runtime.NumGoroutine" := by simpa using hname
      have hb : ¬ fn.body = none := by intro hb; simp [hb] at h
      simp [callFunc, program, Sem.run, hf, hn, hb]
  · cases h

theorem runsV_op {o : Oper} {ρ : Operand → Value} {w : World} {K : Value → World → Prop} {s : Sem Value} (h : RunsV P s w K) (hs : execOp ρ o = (do pure (.value (← s)))) {a : Act}
    (he : execOp a.eval o = execOp ρ o) (n : Nat) (Q : Exit → Act → World → Prop) : o.wp P a (w.drewN n) (Done a o.dst K) Q := by
  obtain ⟨v, m, w', hr, hK⟩ := h.out n
  exact upon_of_value (m := m) he (by rw [hs]; simp [hr]) hK
theorem runsU_op {o : Oper} {ρ : Operand → Value} {w : World} {K : Value → World → Prop} {s : Sem Unit} (h : RunsU P s w (K undef)) (hs : execOp ρ o = (do s; pure .skip)) {a : Act}
    (he : execOp a.eval o = execOp ρ o) (n : Nat) (Q : Exit → Act → World → Prop) : o.wp P a (w.drewN n) (Done a o.dst K) Q := by
  obtain ⟨m, w', hr, hK⟩ := h.out n
  exact upon_of_skip (m := m) he (by rw [hs]; simp [hr]) hK
theorem RunsV.ty {t : TypeId} {s : Sem Value} {w : World} {K : Value → World → Prop} (h : RunsV P s w (tyK P t K)) : RunsV P s w K := .of fun n => by
  obtain ⟨v, m, w', hr, hK⟩ := h.out n
  exact ⟨v, m, w', hr, tyK_spec hK⟩

theorem vcEff_spec {o : Oper} {ρ : Operand → Value} {w : World} {K : Value → World → Prop} (h : vcEff P o ρ w K) {a : Act} (he : execOp a.eval o = execOp ρ o) (n : Nat) (Q : Exit → Act → World → Prop) :
    o.wp P a (w.drewN n) (Done a o.dst K) Q := by
  unfold vcEff at h
  split at h
  · rename_i t ad x ho
    obtain ⟨hT, h⟩ := Need.spec h
    split at h
    · rename_i p hp
      obtain ⟨b, rfl, h⟩ := NilOk.spec h
      split at h
      · rename_i cs hx
        obtain ⟨hl, h⟩ := Need.spec h
        refine upon_of_skip he (w'' := setRow w b 0 cs) (m := n) ?_ h.2.out
        have := run_storeVar_row (n := n) (hasT_info hT) (Nat.eq_of_beq_eq_true hl) h.1
        simp [execOp, ho, Instr.storeAt, Instr.sureAddr, hp, hx, this]
      · rename_i v hx
        obtain ⟨hl, h⟩ := Need.spec h
        obtain ⟨hv, hw, hK⟩ := NotAgg.spec h
        refine upon_of_skip he (w'' := w.setCell b (ρ x)) (m := n) ?_ hK.out
        have := run_storeVar_cell (n := n) (hasT_info hT) (Nat.eq_of_beq_eq_true hl) hv hw
        simp [execOp, ho, Instr.storeAt, Instr.sureAddr, hp, this]
    · exact h.elim
  · rename_i c ho
    split at h
    · rename_i f hf
      split at h
      · rename_i g first cap hv
        have harr : first ++ c.args.map ρ ++ cap = List.toArray (first.toList ++ argsL ρ c.args.toList ++ cap.toList) := by
          rw [argsL_map]; apply Array.ext'; simp
        unfold Br at h
        split at h
        · rename_i hok
          unfold Oper.wp
          have hrun : (execOp ρ o).run P (w.drewN n) = .ok (.enter g (List.toArray (first.toList ++ argsL ρ c.args.toList ++ cap.toList))) (w.drewN n) := by
            rw [← harr]
            simp [execOp, ho, resolve, hf, hv, Deferred.ofValue, invoke, calleeOk_run hok]
          rw [he, hrun]
          refine (h.out n).mono fun e w' hR => ?_
          obtain ⟨m, w'', rfl, hR⟩ := hR
          obtain ⟨v, rfl, hK⟩ := exRes_spec hR
          exact ⟨v, m, w'', rfl, rfl, hK⟩
        · obtain ⟨v, m, w', hr, hK⟩ := h.out n
          refine upon_of_value (m := m) he ?_ (tyK_spec hK)
          rw [← harr] at hr
          rw [Array.append_assoc] at hr
          simp [execOp, ho, resolve, hf, hv, Deferred.ofValue, invoke, hr]
      · exact h.elim
    · rename_i b hb
      have hl : List.toArray (argsL ρ c.args.toList) = c.args.map ρ := by rw [argsL_map]; apply Array.ext'; simp
      rw [hl] at h
      split at h
      all_goals first
        | exact h.elim
        | exact runsV_op h.ty (by simp [execOp, ho, resolve, hb, invoke, builtin]) he n Q
    · exact h.elim
  · rename_i ho; exact runsV_op h.ty (by simp [execOp, ho]) he n Q
  · rename_i ho; exact runsV_op h.ty (by simp [execOp, ho]) he n Q
  · rename_i ho; exact runsV_op h.ty (by simp [execOp, ho]) he n Q
  · rename_i ho; exact runsU_op h (by simp [execOp, ho]) he n Q
  · rename_i ho; exact runsU_op h (by simp [execOp, ho]) he n Q
  · rename_i ho; exact runsV_op h (by simp [execOp, ho]) he n Q
  · rename_i ho; exact runsU_op h (by simp [execOp, ho]) he n Q
  · rename_i ho; exact runsV_op h (by simp [execOp, ho]) he n Q
  · rename_i ho; exact runsV_op h.ty (by simp [execOp, ho]) he n Q
  · rename_i ho; exact runsV_op h (by simp [execOp, ho]) he n Q
  · rename_i ho; exact runsV_op h.ty (by simp [execOp, ho]) he n Q
  · obtain ⟨v, w', hK, hr⟩ := semWp_spec h n
    cases v <;> simp only [nextW] at hK
    · exact upon_of_value he hr hK
    · exact upon_of_skip he hr hK
end
end Go.Vc
