/- Calls that tell one value and turn only new blocks. No program is named. -/
import Derived.Test.YtljipmhkpnigkaaV9
namespace Go.Vc

def Pu (P : Program) (f : FuncId) (args : Array Value) (v : Value) : Prop := ∀ w, Ca P f args w fun e w' => e = .returned v ∧ Kp No w w'
theorem Pu.step {P : Program} {f : FuncId} {args : Array Value} {v : Value} (h : Pu P f args v) {w0 w : World} (hk : Kp No w0 w) {R : Ending → World → Prop}
    (hR : ∀ w', Kp No w0 w' → Kp No w w' → R (.returned v) w') : Ca P f args w R :=
  (h w).mono fun _ w1 ⟨he, hk1⟩ => he ▸ hR w1 (hk.trans hk1) hk1
theorem Pu.of {P : Program} {f : FuncId} {args : Array Value} {v : Value} (h : ∀ w, Ca P f args w fun e w' => e = .returned v ∧ w' = w) : Pu P f args v :=
  fun w => (h w).mono fun _ _ ⟨he, hw⟩ => ⟨he, hw ▸ Kp.refl _ _⟩
theorem Pu.eq {P : Program} {f : FuncId} {args : Array Value} {v v' : Value} (h : Pu P f args v) (e : v = v') : Pu P f args v' := e ▸ h
theorem mk_eqb (a b : List UInt8) : ((mk a).toList == b) = decide (a = b) := by rw [mk_toList]; exact Bool.eq_iff_iff.2 (by simp)
theorem mk_eqb' (a b : List UInt8) : ((mk a).toList == (mk b).toList) = decide (a = b) := by rw [mk_toList, mk_toList]; exact Bool.eq_iff_iff.2 (by simp)
theorem int_beq (a b : Int) : (a == b) = decide (a = b) := rfl
theorem int_bne (a b : Int) : (a != b) = decide (a ≠ b) := by
  show (!(decide (a = b))) = _
  by_cases h : a = b <;> simp [h]
theorem Br_dec {p : Prop} [Decidable p] {x y : Prop} : Br (decide p) x y = if p then x else y := by
  by_cases h : p
  · rw [if_pos h, decide_eq_true h]; rfl
  · rw [if_neg h, decide_eq_false h]; rfl
theorem Br_not {b : Bool} {x y : Prop} : Br (!b) x y = Br b y x := by cases b <;> rfl
/-- a branch that is not taken -/
theorem Br.sure {b : Bool} {x y : Prop} (hb : b = true) (h : x) : Br b x y := by subst hb; exact h
theorem Br.nay {b : Bool} {x y : Prop} (hb : b = false) (h : y) : Br b x y := by subst hb; exact h
end Go.Vc
