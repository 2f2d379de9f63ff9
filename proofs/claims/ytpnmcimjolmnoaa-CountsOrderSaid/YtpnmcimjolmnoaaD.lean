/- The verification conditions of this seat's functions, printed by a program; the kernel holds each against the loaded code. -/
import Derived.Test.YtpnmcimjolmnoaaProg
import Derived.KernelRfl
import Derived.Test.YtpnmcimjolmnoaaV5
set_option maxRecDepth 100000
namespace Go.Proofs.Ytpnmcimjolmnoaa
open Go Go.Vc Go.Proofs
def load (a1 : Addr) (w : World) (R : Ending → World → Prop) : Prop :=
 RunsX Try.prog ((19 : Nat)) #[Value.pointer (some a1)] w fun v2 w3 =>
 ∃ n4 : Int,
 (
  v2 = Value.int IntKind.i64 n4) ∧
 R (Ending.returned (Value.int IntKind.i64 n4)) w3
theorem load_ok (a1 : Addr) (w : World) (R : Ending → World → Prop) (h : load a1 w R) : Ca Try.prog 16 #[Value.pointer (some a1)] w R :=
  Ca.of_fvc (c := bodyOf Try.f16) (by kernel_rfl) Try.func16 (by kernel_rfl) [] (Eq.mp (by kernel_rfl) h)

def cas (a1 : Addr) (n2 : Int) (n3 : Int) (w : World) (R : Ending → World → Prop) : Prop :=
 RunsX Try.prog ((20 : Nat)) #[Value.pointer (some a1), Value.int IntKind.i64 n2, Value.int IntKind.i64 n3] w fun v4 w5 =>
 ∃ b6 : Bool,
 (
  v4 = Value.bool b6) ∧
 R (Ending.returned (Value.bool b6)) w5
theorem cas_ok (a1 : Addr) (n2 : Int) (n3 : Int) (w : World) (R : Ending → World → Prop) (h : cas a1 n2 n3 w R) : Ca Try.prog 17 #[Value.pointer (some a1), Value.int IntKind.i64 n2, Value.int IntKind.i64 n3] w R :=
  Ca.of_fvc (c := bodyOf Try.f17) (by kernel_rfl) Try.func17 (by kernel_rfl) [] (Eq.mp (by kernel_rfl) h)

def store (a1 : Addr) (n2 : Int) (w : World) (R : Ending → World → Prop) : Prop :=
 RunsX Try.prog ((21 : Nat)) #[Value.pointer (some a1), Value.int IntKind.i64 n2] w fun v3 w4 =>
 (
  v3 = Value.tuple #[]) ∧
 R (Ending.returned (Value.tuple #[])) w4
theorem store_ok (a1 : Addr) (n2 : Int) (w : World) (R : Ending → World → Prop) (h : store a1 n2 w R) : Ca Try.prog 18 #[Value.pointer (some a1), Value.int IntKind.i64 n2] w R :=
  Ca.of_fvc (c := bodyOf Try.f18) (by kernel_rfl) Try.func18 (by kernel_rfl) [] (Eq.mp (by kernel_rfl) h)

def isnone (p1 : Option Addr) (w : World) (R : Ending → World → Prop) : Prop :=
 Br (p1.isNone)
  (
   R (Ending.returned (Value.bool true)) w)
  (
   NilOk p1 fun a2 =>
   ∃ p3 : Option Addr,
   ∃ k4 : Nat,
   ∃ k5 : Nat,
   (
    w.cell? a2 = some (Value.slice p3 k4 k5)) ∧
   R (Ending.returned (Value.bool ((↑k4 : Int) == (0 : Int)))) w)
theorem isnone_ok (p1 : Option Addr) (w : World) (R : Ending → World → Prop) (h : isnone p1 w R) : Ca Try.prog 15 #[Value.pointer p1] w R :=
  Ca.of_fvc (c := bodyOf Try.f15) (by kernel_rfl) Try.func15 (by kernel_rfl) [] (Eq.mp (by kernel_rfl) h)

def new_ (n1 : Int) (w : World) (R : Ending → World → Prop) : Prop :=
 Br (decide (n1 < (1 : Int)))
  (
   R (Ending.returned (Value.tuple #[Value.pointer none, Value.int IntKind.i64 (2 : Int)])) w)
  (
   Br (decide (n1 > (64 : Int)))
    (
     R (Ending.returned (Value.tuple #[Value.pointer none, Value.int IntKind.i64 (2 : Int)])) w)
    (
     RunsV Try.prog (Instr.makeSlice (43 : Nat) (Value.int IntKind.i64 n1) (Value.int IntKind.i64 n1)) w fun v2 w3 =>
     ∃ p4 : Option Addr,
     ∃ k5 : Nat,
     ∃ k6 : Nat,
     (
      v2 = Value.slice p4 k5 k6) ∧
     LetA (Obj.cells #[Value.slice p4 k5 k6] (45 : Nat)) w3 fun b7 w8 =>
     R (Ending.returned (Value.tuple #[Value.pointer (some { block := b7, off := (0 : Nat) }), Value.int IntKind.i64 (0 : Int)])) w8))
theorem new__ok (n1 : Int) (w : World) (R : Ending → World → Prop) (h : new_ n1 w R) : Ca Try.prog 7 #[Value.int IntKind.i64 n1] w R :=
  Ca.of_fvc (c := bodyOf Try.f7) (by kernel_rfl) Try.func7 (by kernel_rfl) [] (Eq.mp (by kernel_rfl) h)

def add (p1 : Option Addr) (n2 : Int) (n3 : Int) (w : World) (R : Ending → World → Prop) : Prop :=
 Ca Try.prog (15 : Nat) #[Value.pointer p1] w fun e4 w5 =>
 ∃ b6 : Bool,
 (
  e4 = Ending.returned (Value.bool b6)) ∧
 Br (b6)
  (
   R (Ending.returned (Value.tuple #[Value.int IntKind.i64 (0 : Int), Value.int IntKind.i64 (1 : Int)])) w5)
  (
   Br (decide (n3 < (0 : Int)))
    (
     R (Ending.returned (Value.tuple #[Value.int IntKind.i64 (0 : Int), Value.int IntKind.i64 (2 : Int)])) w5)
    (
     Br (decide (n2 < (0 : Int)))
      (
       R (Ending.returned (Value.tuple #[Value.int IntKind.i64 (0 : Int), Value.int IntKind.i64 (4 : Int)])) w5)
      (
       NilOk p1 fun a7 =>
       ∃ p8 : Option Addr,
       ∃ k9 : Nat,
       ∃ k10 : Nat,
       (
        w5.cell? a7 = some (Value.slice p8 k9 k10)) ∧
       Br (decide (n2 ≥ (↑k9 : Int)))
        (
         R (Ending.returned (Value.tuple #[Value.int IntKind.i64 (0 : Int), Value.int IntKind.i64 (4 : Int)])) w5)
        (
         ∃ I11 : Nat → List Value → World → Prop,
         (
          ∃ k12 : Nat,
          I11 k12 [Value.int IntKind.i64 (0 : Int), Value.int IntKind.i64 (0 : Int)] w5) ∧
         ∀ n13 : Int,
         ∀ n14 : Int,
         ∀ k15 : Nat,
         ∀ w16 : World,
         (
          I11 k15 [Value.int IntKind.i64 n13, Value.int IntKind.i64 n14] w16) →
         NilOk p1 fun a17 =>
         ∃ p18 : Option Addr,
         ∃ k19 : Nat,
         ∃ k20 : Nat,
         (
          w16.cell? a17 = some (Value.slice p18 k19 k20)) ∧
         NilOk p18 fun a21 =>
         (
          (
           (0 : Int) ≤ n2) ∧
          n2 < (↑k19 : Int)) ∧
         Ca Try.prog (16 : Nat) #[Value.pointer (some (a21.add (n2.toNat * (1 : Nat))))] w16 fun e22 w23 =>
         ∃ n24 : Int,
         (
          e22 = Ending.returned (Value.int IntKind.i64 n24)) ∧
         LetI (IntKind.i64.wrap ((4611686018427387904 : Int) - n24)) fun n25 =>
         LetI (min n3 n25) fun n26 =>
         LetI (IntKind.i64.wrap (n24 + n26)) fun n27 =>
         NilOk p1 fun a28 =>
         ∃ p29 : Option Addr,
         ∃ k30 : Nat,
         ∃ k31 : Nat,
         (
          w23.cell? a28 = some (Value.slice p29 k30 k31)) ∧
         NilOk p29 fun a32 =>
         (
          (
           (0 : Int) ≤ n2) ∧
          n2 < (↑k30 : Int)) ∧
         Ca Try.prog (17 : Nat) #[Value.pointer (some (a32.add (n2.toNat * (1 : Nat)))), Value.int IntKind.i64 n24, Value.int IntKind.i64 n27] w23 fun e33 w34 =>
         ∃ b35 : Bool,
         (
          e33 = Ending.returned (Value.bool b35)) ∧
         Br (b35)
          (
           R (Ending.returned (Value.tuple #[Value.int IntKind.i64 n27, Value.int IntKind.i64 (0 : Int)])) w34)
          (
           ∃ k36 : Nat,
           (
            k36 < k15) ∧
           I11 k36 [Value.int IntKind.i64 n13, Value.int IntKind.i64 n14] w34)))))
theorem add_ok (p1 : Option Addr) (n2 : Int) (n3 : Int) (w : World) (R : Ending → World → Prop) (h : add p1 n2 n3 w R) : Ca Try.prog 8 #[Value.pointer p1, Value.int IntKind.i64 n2, Value.int IntKind.i64 n3] w R :=
  Ca.of_fvc (c := bodyOf Try.f8) (by kernel_rfl) Try.func8 (by kernel_rfl) [] (Eq.mp (by kernel_rfl) h)

def get (p1 : Option Addr) (n2 : Int) (w : World) (R : Ending → World → Prop) : Prop :=
 Ca Try.prog (15 : Nat) #[Value.pointer p1] w fun e3 w4 =>
 ∃ b5 : Bool,
 (
  e3 = Ending.returned (Value.bool b5)) ∧
 Br (b5)
  (
   R (Ending.returned (Value.int IntKind.i64 (0 : Int))) w4)
  (
   Br (decide (n2 < (0 : Int)))
    (
     R (Ending.returned (Value.int IntKind.i64 (0 : Int))) w4)
    (
     NilOk p1 fun a6 =>
     ∃ p7 : Option Addr,
     ∃ k8 : Nat,
     ∃ k9 : Nat,
     (
      w4.cell? a6 = some (Value.slice p7 k8 k9)) ∧
     Br (decide (n2 ≥ (↑k8 : Int)))
      (
       R (Ending.returned (Value.int IntKind.i64 (0 : Int))) w4)
      (
       NilOk p1 fun a10 =>
       ∃ p11 : Option Addr,
       ∃ k12 : Nat,
       ∃ k13 : Nat,
       (
        w4.cell? a10 = some (Value.slice p11 k12 k13)) ∧
       NilOk p11 fun a14 =>
       (
        (
         (0 : Int) ≤ n2) ∧
        n2 < (↑k12 : Int)) ∧
       Ca Try.prog (16 : Nat) #[Value.pointer (some (a14.add (n2.toNat * (1 : Nat))))] w4 fun e15 w16 =>
       ∃ n17 : Int,
       (
        e15 = Ending.returned (Value.int IntKind.i64 n17)) ∧
       R (Ending.returned (Value.int IntKind.i64 n17)) w16)))
theorem get_ok (p1 : Option Addr) (n2 : Int) (w : World) (R : Ending → World → Prop) (h : get p1 n2 w R) : Ca Try.prog 9 #[Value.pointer p1, Value.int IntKind.i64 n2] w R :=
  Ca.of_fvc (c := bodyOf Try.f9) (by kernel_rfl) Try.func9 (by kernel_rfl) [] (Eq.mp (by kernel_rfl) h)

def rnew (n1 : Int) (w : World) (R : Ending → World → Prop) : Prop :=
 Br (decide (n1 < (1 : Int)))
  (
   R (Ending.returned (Value.tuple #[Value.slice none (0 : Nat) (0 : Nat), Value.int IntKind.i64 (2 : Int)])) w)
  (
   Br (decide (n1 > (64 : Int)))
    (
     R (Ending.returned (Value.tuple #[Value.slice none (0 : Nat) (0 : Nat), Value.int IntKind.i64 (2 : Int)])) w)
    (
     RunsV Try.prog (Instr.makeSlice (34 : Nat) (Value.int IntKind.i64 n1) (Value.int IntKind.i64 n1)) w fun v2 w3 =>
     ∃ p4 : Option Addr,
     ∃ k5 : Nat,
     ∃ k6 : Nat,
     (
      v2 = Value.slice p4 k5 k6) ∧
     R (Ending.returned (Value.tuple #[Value.slice p4 k5 k6, Value.int IntKind.i64 (0 : Int)])) w3))
theorem rnew_ok (n1 : Int) (w : World) (R : Ending → World → Prop) (h : rnew n1 w R) : Ca Try.prog 10 #[Value.int IntKind.i64 n1] w R :=
  Ca.of_fvc (c := bodyOf Try.f10) (by kernel_rfl) Try.func10 (by kernel_rfl) [] (Eq.mp (by kernel_rfl) h)

def list_ (p1 : Option Addr) (w : World) (R : Ending → World → Prop) : Prop :=
 Ca Try.prog (15 : Nat) #[Value.pointer p1] w fun e2 w3 =>
 ∃ b4 : Bool,
 (
  e2 = Ending.returned (Value.bool b4)) ∧
 Br (b4)
  (
   R (Ending.returned (Value.slice none (0 : Nat) (0 : Nat))) w3)
  (
   NilOk p1 fun a5 =>
   ∃ p6 : Option Addr,
   ∃ k7 : Nat,
   ∃ k8 : Nat,
   (
    w3.cell? a5 = some (Value.slice p6 k7 k8)) ∧
   RunsV Try.prog (Instr.makeSlice (34 : Nat) (Value.int IntKind.i64 (↑k7 : Int)) (Value.int IntKind.i64 (↑k7 : Int))) w3 fun v9 w10 =>
   ∃ p11 : Option Addr,
   ∃ k12 : Nat,
   ∃ k13 : Nat,
   (
    v9 = Value.slice p11 k12 k13) ∧
   NilOk p1 fun a14 =>
   ∃ p15 : Option Addr,
   ∃ k16 : Nat,
   ∃ k17 : Nat,
   (
    w10.cell? a14 = some (Value.slice p15 k16 k17)) ∧
   ∃ I18 : Nat → List Value → World → Prop,
   (
    ∃ k19 : Nat,
    I18 k19 [Value.int IntKind.i64 (0 : Int)] w10) ∧
   ∀ n20 : Int,
   ∀ k21 : Nat,
   ∀ w22 : World,
   (
    I18 k21 [Value.int IntKind.i64 n20] w22) →
   Br (decide (n20 < (↑k16 : Int)))
    (
     NilOk p1 fun a23 =>
     ∃ p24 : Option Addr,
     ∃ k25 : Nat,
     ∃ k26 : Nat,
     (
      w22.cell? a23 = some (Value.slice p24 k25 k26)) ∧
     NilOk p24 fun a27 =>
     (
      (
       (0 : Int) ≤ n20) ∧
      n20 < (↑k25 : Int)) ∧
     Ca Try.prog (16 : Nat) #[Value.pointer (some (a27.add (n20.toNat * (1 : Nat))))] w22 fun e28 w29 =>
     ∃ n30 : Int,
     (
      e28 = Ending.returned (Value.int IntKind.i64 n30)) ∧
     NilOk p11 fun a31 =>
     (
      (
       (0 : Int) ≤ n20) ∧
      n20 < (↑k12 : Int)) ∧
     (
      Wr w29 (a31.add (n20.toNat * (1 : Nat)))) ∧
     LetW (w29.setCell (a31.add (n20.toNat * (1 : Nat))) (Value.int IntKind.i64 n30)) fun w32 =>
     LetI (IntKind.i64.wrap (n20 + (1 : Int))) fun n33 =>
     ∃ k34 : Nat,
     (
      k34 < k21) ∧
     I18 k34 [Value.int IntKind.i64 n33] w32)
    (
     R (Ending.returned (Value.slice p11 k12 k13)) w22))
theorem list__ok (p1 : Option Addr) (w : World) (R : Ending → World → Prop) (h : list_ p1 w R) : Ca Try.prog 14 #[Value.pointer p1] w R :=
  Ca.of_fvc (c := bodyOf Try.f14) (by kernel_rfl) Try.func14 (by kernel_rfl) [] (Eq.mp (by kernel_rfl) h)

def copy_ (p1 : Option Addr) (w : World) (R : Ending → World → Prop) : Prop :=
 Ca Try.prog (15 : Nat) #[Value.pointer p1] w fun e2 w3 =>
 ∃ b4 : Bool,
 (
  e2 = Ending.returned (Value.bool b4)) ∧
 Br (b4)
  (
   R (Ending.returned (Value.pointer none)) w3)
  (
   NilOk p1 fun a5 =>
   ∃ p6 : Option Addr,
   ∃ k7 : Nat,
   ∃ k8 : Nat,
   (
    w3.cell? a5 = some (Value.slice p6 k7 k8)) ∧
   RunsV Try.prog (Instr.makeSlice (43 : Nat) (Value.int IntKind.i64 (↑k7 : Int)) (Value.int IntKind.i64 (↑k7 : Int))) w3 fun v9 w10 =>
   ∃ p11 : Option Addr,
   ∃ k12 : Nat,
   ∃ k13 : Nat,
   (
    v9 = Value.slice p11 k12 k13) ∧
   LetA (Obj.cells #[Value.slice p11 k12 k13] (45 : Nat)) w10 fun b14 w15 =>
   Ca Try.prog (14 : Nat) #[Value.pointer p1] w15 fun e16 w17 =>
   ∃ p18 : Option Addr,
   ∃ k19 : Nat,
   ∃ k20 : Nat,
   (
    e16 = Ending.returned (Value.slice p18 k19 k20)) ∧
   ∃ I21 : Nat → List Value → World → Prop,
   (
    ∃ k22 : Nat,
    I21 k22 [Value.int IntKind.i64 (0 : Int)] w17) ∧
   ∀ n23 : Int,
   ∀ k24 : Nat,
   ∀ w25 : World,
   (
    I21 k24 [Value.int IntKind.i64 n23] w25) →
   Br (decide (n23 < (↑k19 : Int)))
    (
     NilOk p18 fun a26 =>
     (
      (
       (0 : Int) ≤ n23) ∧
      n23 < (↑k19 : Int)) ∧
     ∃ n27 : Int,
     (
      w25.cell? (a26.add (n23.toNat * (1 : Nat))) = some (Value.int IntKind.i64 n27)) ∧
     ∃ p28 : Option Addr,
     ∃ k29 : Nat,
     ∃ k30 : Nat,
     (
      w25.cell? { block := b14, off := (0 : Nat) } = some (Value.slice p28 k29 k30)) ∧
     NilOk p28 fun a31 =>
     (
      (
       (0 : Int) ≤ n23) ∧
      n23 < (↑k29 : Int)) ∧
     Ca Try.prog (18 : Nat) #[Value.pointer (some (a31.add (n23.toNat * (1 : Nat)))), Value.int IntKind.i64 n27] w25 fun e32 w33 =>
     (
      e32 = Ending.returned (Value.tuple #[])) ∧
     LetI (IntKind.i64.wrap (n23 + (1 : Int))) fun n34 =>
     ∃ k35 : Nat,
     (
      k35 < k24) ∧
     I21 k35 [Value.int IntKind.i64 n34] w33)
    (
     R (Ending.returned (Value.pointer (some { block := b14, off := (0 : Nat) }))) w25))
theorem copy__ok (p1 : Option Addr) (w : World) (R : Ending → World → Prop) (h : copy_ p1 w R) : Ca Try.prog 11 #[Value.pointer p1] w R :=
  Ca.of_fvc (c := bodyOf Try.f11) (by kernel_rfl) Try.func11 (by kernel_rfl) [] (Eq.mp (by kernel_rfl) h)

def radd (p1 : Option Addr) (k2 : Nat) (k3 : Nat) (n4 : Int) (n5 : Int) (w : World) (R : Ending → World → Prop) : Prop :=
 Br (decide (n5 < (0 : Int)))
  (
   R (Ending.returned (Value.tuple #[Value.slice p1 k2 k3, Value.int IntKind.i64 (0 : Int), Value.int IntKind.i64 (2 : Int)])) w)
  (
   Br (decide (n4 < (0 : Int)))
    (
     R (Ending.returned (Value.tuple #[Value.slice p1 k2 k3, Value.int IntKind.i64 (0 : Int), Value.int IntKind.i64 (4 : Int)])) w)
    (
     Br (decide (n4 ≥ (↑k2 : Int)))
      (
       R (Ending.returned (Value.tuple #[Value.slice p1 k2 k3, Value.int IntKind.i64 (0 : Int), Value.int IntKind.i64 (4 : Int)])) w)
      (
       RunsV Try.prog (Builtin.append_ #[(34 : Nat), (34 : Nat)] (34 : Nat) #[Value.slice none (0 : Nat) (0 : Nat), Value.slice p1 k2 k3]) w fun v6 w7 =>
       ∃ p8 : Option Addr,
       ∃ k9 : Nat,
       ∃ k10 : Nat,
       (
        v6 = Value.slice p8 k9 k10) ∧
       NilOk p8 fun a11 =>
       (
        (
         (0 : Int) ≤ n4) ∧
        n4 < (↑k9 : Int)) ∧
       ∃ n12 : Int,
       (
        w7.cell? (a11.add (n4.toNat * (1 : Nat))) = some (Value.int IntKind.i64 n12)) ∧
       LetI (IntKind.i64.wrap ((4611686018427387904 : Int) - n12)) fun n13 =>
       Br (decide (n5 > n13))
        (
         NilOk p8 fun a14 =>
         (
          (
           (0 : Int) ≤ n4) ∧
          n4 < (↑k9 : Int)) ∧
         (
          Wr w7 (a14.add (n4.toNat * (1 : Nat)))) ∧
         LetW (w7.setCell (a14.add (n4.toNat * (1 : Nat))) (Value.int IntKind.i64 (4611686018427387904 : Int))) fun w15 =>
         NilOk p8 fun a16 =>
         (
          (
           (0 : Int) ≤ n4) ∧
          n4 < (↑k9 : Int)) ∧
         ∃ n17 : Int,
         (
          w15.cell? (a16.add (n4.toNat * (1 : Nat))) = some (Value.int IntKind.i64 n17)) ∧
         R (Ending.returned (Value.tuple #[Value.slice p8 k9 k10, Value.int IntKind.i64 n17, Value.int IntKind.i64 (0 : Int)])) w15)
        (
         NilOk p8 fun a18 =>
         (
          (
           (0 : Int) ≤ n4) ∧
          n4 < (↑k9 : Int)) ∧
         ∃ n19 : Int,
         (
          w7.cell? (a18.add (n4.toNat * (1 : Nat))) = some (Value.int IntKind.i64 n19)) ∧
         LetI (IntKind.i64.wrap (n19 + n5)) fun n20 =>
         NilOk p8 fun a21 =>
         (
          (
           (0 : Int) ≤ n4) ∧
          n4 < (↑k9 : Int)) ∧
         (
          Wr w7 (a21.add (n4.toNat * (1 : Nat)))) ∧
         LetW (w7.setCell (a21.add (n4.toNat * (1 : Nat))) (Value.int IntKind.i64 n20)) fun w22 =>
         NilOk p8 fun a23 =>
         (
          (
           (0 : Int) ≤ n4) ∧
          n4 < (↑k9 : Int)) ∧
         ∃ n24 : Int,
         (
          w22.cell? (a23.add (n4.toNat * (1 : Nat))) = some (Value.int IntKind.i64 n24)) ∧
         R (Ending.returned (Value.tuple #[Value.slice p8 k9 k10, Value.int IntKind.i64 n24, Value.int IntKind.i64 (0 : Int)])) w22))))
theorem radd_ok (p1 : Option Addr) (k2 : Nat) (k3 : Nat) (n4 : Int) (n5 : Int) (w : World) (R : Ending → World → Prop) (h : radd p1 k2 k3 n4 n5 w R) : Ca Try.prog 12 #[Value.slice p1 k2 k3, Value.int IntKind.i64 n4, Value.int IntKind.i64 n5] w R :=
  Ca.of_fvc (c := bodyOf Try.f12) (by kernel_rfl) Try.func12 (by kernel_rfl) [] (Eq.mp (by kernel_rfl) h)

def same (p1 : Option Addr) (p2 : Option Addr) (k3 : Nat) (_k4 : Nat) (w : World) (R : Ending → World → Prop) : Prop :=
 Ca Try.prog (14 : Nat) #[Value.pointer p1] w fun e5 w6 =>
 ∃ p7 : Option Addr,
 ∃ k8 : Nat,
 ∃ k9 : Nat,
 (
  e5 = Ending.returned (Value.slice p7 k8 k9)) ∧
 Br ((↑k8 : Int) != (↑k3 : Int))
  (
   R (Ending.returned (Value.bool false)) w6)
  (
   ∃ I10 : Nat → List Value → World → Prop,
   (
    ∃ k11 : Nat,
    I10 k11 [Value.bool false, Value.int IntKind.i64 (0 : Int)] w6) ∧
   ∀ b12 : Bool,
   ∀ n13 : Int,
   ∀ k14 : Nat,
   ∀ w15 : World,
   (
    I10 k14 [Value.bool b12, Value.int IntKind.i64 n13] w15) →
   Br (decide (n13 < (↑k3 : Int)))
    (
     NilOk p7 fun a16 =>
     (
      (
       (0 : Int) ≤ n13) ∧
      n13 < (↑k8 : Int)) ∧
     ∃ n17 : Int,
     (
      w15.cell? (a16.add (n13.toNat * (1 : Nat))) = some (Value.int IntKind.i64 n17)) ∧
     NilOk p2 fun a18 =>
     (
      (
       (0 : Int) ≤ n13) ∧
      n13 < (↑k3 : Int)) ∧
     ∃ n19 : Int,
     (
      w15.cell? (a18.add (n13.toNat * (1 : Nat))) = some (Value.int IntKind.i64 n19)) ∧
     Br (n17 != n19)
      (
       R (Ending.returned (Value.bool false)) w15)
      (
       NilOk p2 fun a20 =>
       (
        (
         (0 : Int) ≤ n13) ∧
        n13 < (↑k3 : Int)) ∧
       ∃ n21 : Int,
       (
        w15.cell? (a20.add (n13.toNat * (1 : Nat))) = some (Value.int IntKind.i64 n21)) ∧
       Ca Try.prog (9 : Nat) #[Value.pointer p1, Value.int IntKind.i64 n13] w15 fun e22 w23 =>
       ∃ n24 : Int,
       (
        e22 = Ending.returned (Value.int IntKind.i64 n24)) ∧
       (
        w23.cell? (a20.add (n13.toNat * (1 : Nat))) = some (Value.int IntKind.i64 n21)) ∧
       Br (n24 != n21)
        (
         R (Ending.returned (Value.bool false)) w23)
        (
         NilOk p7 fun a25 =>
         (
          (
           (0 : Int) ≤ n13) ∧
          n13 < (↑k8 : Int)) ∧
         (
          Wr w23 (a25.add (n13.toNat * (1 : Nat)))) ∧
         LetW (w23.setCell (a25.add (n13.toNat * (1 : Nat))) (Value.int IntKind.i64 (-1 : Int))) fun w26 =>
         LetI (IntKind.i64.wrap (n13 + (1 : Int))) fun n27 =>
         ∃ k28 : Nat,
         (
          k28 < k14) ∧
         I10 k28 [Value.bool b12, Value.int IntKind.i64 n27] w26)))
    (
     Ca Try.prog (9 : Nat) #[Value.pointer p1, Value.int IntKind.i64 (-1 : Int)] w15 fun e29 w30 =>
     ∃ n31 : Int,
     (
      e29 = Ending.returned (Value.int IntKind.i64 n31)) ∧
     Br (n31 == (0 : Int))
      (
       Ca Try.prog (9 : Nat) #[Value.pointer p1, Value.int IntKind.i64 (↑k3 : Int)] w30 fun e32 w33 =>
       ∃ n34 : Int,
       (
        e32 = Ending.returned (Value.int IntKind.i64 n34)) ∧
       R (Ending.returned (Value.bool (n34 == (0 : Int)))) w33)
      (
       R (Ending.returned (Value.bool false)) w30)))
theorem same_ok (p1 : Option Addr) (p2 : Option Addr) (k3 : Nat) (k4 : Nat) (w : World) (R : Ending → World → Prop) (h : same p1 p2 k3 k4 w R) : Ca Try.prog 13 #[Value.pointer p1, Value.slice p2 k3 k4] w R :=
  Ca.of_fvc (c := bodyOf Try.f13) (by kernel_rfl) Try.func13 (by kernel_rfl) [] (Eq.mp (by kernel_rfl) h)

def lawOrder (p1 : Option Addr) (k2 : Nat) (_k3 : Nat) (n4 : Int) (w : World) (R : Ending → World → Prop) : Prop :=
 Br (decide ((↑k2 : Int) > (80 : Int)))
  (
   Ca Try.prog (6 : Nat) #[] w fun e5 w6 =>
   ∃ b7 : Bool,
   (
    e5 = Ending.returned (Value.bool b7)) ∧
   R (Ending.returned (Value.bool b7)) w6)
  (
   Ca Try.prog (7 : Nat) #[Value.int IntKind.i64 (4 : Int)] w fun e8 w9 =>
   ∃ p10 : Option Addr,
   ∃ n11 : Int,
   (
    e8 = Ending.returned (Value.tuple #[Value.pointer p10, Value.int IntKind.i64 n11])) ∧
   Ca Try.prog (7 : Nat) #[Value.int IntKind.i64 (4 : Int)] w9 fun e12 w13 =>
   ∃ p14 : Option Addr,
   ∃ n15 : Int,
   (
    e12 = Ending.returned (Value.tuple #[Value.pointer p14, Value.int IntKind.i64 n15])) ∧
   Br (n11 != (0 : Int))
    (
     R (Ending.returned (Value.bool false)) w13)
    (
     Br (n15 != (0 : Int))
      (
       R (Ending.returned (Value.bool false)) w13)
      (
       ∃ I16 : Nat → List Value → World → Prop,
       (
        ∃ k17 : Nat,
        I16 k17 [Value.bool false, Value.int IntKind.i64 (0 : Int)] w13) ∧
       ∀ b18 : Bool,
       ∀ n19 : Int,
       ∀ k20 : Nat,
       ∀ w21 : World,
       (
        I16 k20 [Value.bool b18, Value.int IntKind.i64 n19] w21) →
       Br (decide (n19 < (↑k2 : Int)))
        (
         NilOk p1 fun a22 =>
         (
          (
           (0 : Int) ≤ n19) ∧
          n19 < (↑k2 : Int)) ∧
         ∃ n23 : Int,
         ∃ n24 : Int,
         (
          Row w21 (a22.add (n19.toNat * (2 : Nat))) (0 : Nat) [Value.int IntKind.i64 n23, Value.int IntKind.i64 n24]) ∧
         LetI (IntKind.i64.wrap n4) fun n25 =>
         LetI (IntKind.i64.wrap (n19 + n25)) fun n26 =>
         (
          (↑k2 : Int) ≠ (0 : Int)) ∧
         LetI (n26.tmod (↑k2 : Int)) fun n27 =>
         NilOk p1 fun a28 =>
         (
          (
           (0 : Int) ≤ n27) ∧
          n27 < (↑k2 : Int)) ∧
         ∃ n29 : Int,
         ∃ n30 : Int,
         (
          Row w21 (a28.add (n27.toNat * (2 : Nat))) (0 : Nat) [Value.int IntKind.i64 n29, Value.int IntKind.i64 n30]) ∧
         (
          LetA (Obj.cells #[Value.int IntKind.i64 (0 : Int), Value.int IntKind.i64 (0 : Int)] (29 : Nat)) w21 fun b31 w32 =>
          (
           Row w32 (a28.add (n27.toNat * (2 : Nat))) (0 : Nat) [Value.int IntKind.i64 n29, Value.int IntKind.i64 n30]) ∧
          (
           Row w32 (a22.add (n19.toNat * (2 : Nat))) (0 : Nat) [Value.int IntKind.i64 n23, Value.int IntKind.i64 n24]) ∧
          LetA (Obj.cells #[Value.int IntKind.i64 (0 : Int), Value.int IntKind.i64 (0 : Int)] (29 : Nat)) w32 fun b33 w34 =>
          (
           Row w34 (a28.add (n27.toNat * (2 : Nat))) (0 : Nat) [Value.int IntKind.i64 n29, Value.int IntKind.i64 n30]) ∧
          (
           Row w34 (a22.add (n19.toNat * (2 : Nat))) (0 : Nat) [Value.int IntKind.i64 n23, Value.int IntKind.i64 n24]) ∧
          (
           WrRow w34 { block := b31, off := (0 : Nat) } (0 : Nat) [Value.int IntKind.i64 n23, Value.int IntKind.i64 n24]) ∧
          LetW (setRow w34 { block := b31, off := (0 : Nat) } (0 : Nat) [Value.int IntKind.i64 n23, Value.int IntKind.i64 n24]) fun w35 =>
          (
           Row w35 (a28.add (n27.toNat * (2 : Nat))) (0 : Nat) [Value.int IntKind.i64 n29, Value.int IntKind.i64 n30]) ∧
          (
           WrRow w35 { block := b33, off := (0 : Nat) } (0 : Nat) [Value.int IntKind.i64 n29, Value.int IntKind.i64 n30]) ∧
          LetW (setRow w35 { block := b33, off := (0 : Nat) } (0 : Nat) [Value.int IntKind.i64 n29, Value.int IntKind.i64 n30]) fun w36 =>
          ∃ n37 : Int,
          (
           w36.cell? { block := b31, off := (0 : Nat) } = some (Value.int IntKind.i64 n37)) ∧
          ∃ n38 : Int,
          (
           w36.cell? { block := b31, off := (1 : Nat) } = some (Value.int IntKind.i64 n38)) ∧
          Ca Try.prog (8 : Nat) #[Value.pointer p10, Value.int IntKind.i64 (IntKind.i64.wrap (↑(BitVec.ofInt (64 : Nat) n37 &&& BitVec.ofInt (64 : Nat) (3 : Int)).toNat : Int)), Value.int IntKind.i64 n38] w36 fun e39 w40 =>
          ∃ n41 : Int,
          ∃ n42 : Int,
          (
           e39 = Ending.returned (Value.tuple #[Value.int IntKind.i64 n41, Value.int IntKind.i64 n42])) ∧
          ∃ n43 : Int,
          (
           w40.cell? { block := b33, off := (0 : Nat) } = some (Value.int IntKind.i64 n43)) ∧
          ∃ n44 : Int,
          (
           w40.cell? { block := b33, off := (1 : Nat) } = some (Value.int IntKind.i64 n44)) ∧
          Ca Try.prog (8 : Nat) #[Value.pointer p14, Value.int IntKind.i64 (IntKind.i64.wrap (↑(BitVec.ofInt (64 : Nat) n43 &&& BitVec.ofInt (64 : Nat) (3 : Int)).toNat : Int)), Value.int IntKind.i64 n44] w40 fun e45 w46 =>
          ∃ n47 : Int,
          ∃ n48 : Int,
          (
           e45 = Ending.returned (Value.tuple #[Value.int IntKind.i64 n47, Value.int IntKind.i64 n48])) ∧
          ∃ n49 : Int,
          (
           w46.cell? { block := b31, off := (1 : Nat) } = some (Value.int IntKind.i64 n49)) ∧
          Br (!(n42 == (0 : Int)) == decide (n49 ≥ (0 : Int)))
           (
            R (Ending.returned (Value.bool false)) w46)
           (
            ∃ n50 : Int,
            (
             w46.cell? { block := b33, off := (1 : Nat) } = some (Value.int IntKind.i64 n50)) ∧
            Br (!(n48 == (0 : Int)) == decide (n50 ≥ (0 : Int)))
             (
              R (Ending.returned (Value.bool false)) w46)
             (
              LetI (IntKind.i64.wrap (n19 + (1 : Int))) fun n51 =>
              ∃ k52 : Nat,
              (
               k52 < k20) ∧
              I16 k52 [Value.bool b18, Value.int IntKind.i64 n51] w46))) ∧
         LetA (Obj.cells #[Value.int IntKind.i64 (0 : Int), Value.int IntKind.i64 (0 : Int)] (29 : Nat)) w21 fun b53 w54 =>
         (
          Row w54 (a28.add (n27.toNat * (2 : Nat))) (0 : Nat) [Value.int IntKind.i64 n29, Value.int IntKind.i64 n30]) ∧
         (
          Row w54 (a22.add (n19.toNat * (2 : Nat))) (0 : Nat) [Value.int IntKind.i64 n23, Value.int IntKind.i64 n24]) ∧
         LetA (Obj.cells #[Value.int IntKind.i64 (0 : Int), Value.int IntKind.i64 (0 : Int)] (29 : Nat)) w54 fun b55 w56 =>
         (
          Row w56 (a28.add (n27.toNat * (2 : Nat))) (0 : Nat) [Value.int IntKind.i64 n29, Value.int IntKind.i64 n30]) ∧
         (
          Row w56 (a22.add (n19.toNat * (2 : Nat))) (0 : Nat) [Value.int IntKind.i64 n23, Value.int IntKind.i64 n24]) ∧
         (
          WrRow w56 { block := b55, off := (0 : Nat) } (0 : Nat) [Value.int IntKind.i64 n23, Value.int IntKind.i64 n24]) ∧
         LetW (setRow w56 { block := b55, off := (0 : Nat) } (0 : Nat) [Value.int IntKind.i64 n23, Value.int IntKind.i64 n24]) fun w57 =>
         (
          Row w57 (a28.add (n27.toNat * (2 : Nat))) (0 : Nat) [Value.int IntKind.i64 n29, Value.int IntKind.i64 n30]) ∧
         (
          WrRow w57 { block := b53, off := (0 : Nat) } (0 : Nat) [Value.int IntKind.i64 n29, Value.int IntKind.i64 n30]) ∧
         LetW (setRow w57 { block := b53, off := (0 : Nat) } (0 : Nat) [Value.int IntKind.i64 n29, Value.int IntKind.i64 n30]) fun w58 =>
         ∃ n59 : Int,
         (
          w58.cell? { block := b55, off := (0 : Nat) } = some (Value.int IntKind.i64 n59)) ∧
         ∃ n60 : Int,
         (
          w58.cell? { block := b55, off := (1 : Nat) } = some (Value.int IntKind.i64 n60)) ∧
         Ca Try.prog (8 : Nat) #[Value.pointer p10, Value.int IntKind.i64 (IntKind.i64.wrap (↑(BitVec.ofInt (64 : Nat) n59 &&& BitVec.ofInt (64 : Nat) (3 : Int)).toNat : Int)), Value.int IntKind.i64 n60] w58 fun e61 w62 =>
         ∃ n63 : Int,
         ∃ n64 : Int,
         (
          e61 = Ending.returned (Value.tuple #[Value.int IntKind.i64 n63, Value.int IntKind.i64 n64])) ∧
         ∃ n65 : Int,
         (
          w62.cell? { block := b53, off := (0 : Nat) } = some (Value.int IntKind.i64 n65)) ∧
         ∃ n66 : Int,
         (
          w62.cell? { block := b53, off := (1 : Nat) } = some (Value.int IntKind.i64 n66)) ∧
         Ca Try.prog (8 : Nat) #[Value.pointer p14, Value.int IntKind.i64 (IntKind.i64.wrap (↑(BitVec.ofInt (64 : Nat) n65 &&& BitVec.ofInt (64 : Nat) (3 : Int)).toNat : Int)), Value.int IntKind.i64 n66] w62 fun e67 w68 =>
         ∃ n69 : Int,
         ∃ n70 : Int,
         (
          e67 = Ending.returned (Value.tuple #[Value.int IntKind.i64 n69, Value.int IntKind.i64 n70])) ∧
         ∃ n71 : Int,
         (
          w68.cell? { block := b55, off := (1 : Nat) } = some (Value.int IntKind.i64 n71)) ∧
         Br (!(n64 == (0 : Int)) == decide (n71 ≥ (0 : Int)))
          (
           R (Ending.returned (Value.bool false)) w68)
          (
           ∃ n72 : Int,
           (
            w68.cell? { block := b53, off := (1 : Nat) } = some (Value.int IntKind.i64 n72)) ∧
           Br (!(n70 == (0 : Int)) == decide (n72 ≥ (0 : Int)))
            (
             R (Ending.returned (Value.bool false)) w68)
            (
             LetI (IntKind.i64.wrap (n19 + (1 : Int))) fun n73 =>
             ∃ k74 : Nat,
             (
              k74 < k20) ∧
             I16 k74 [Value.bool b18, Value.int IntKind.i64 n73] w68)))
        (
         ∃ I75 : Nat → List Value → World → Prop,
         (
          ∃ k76 : Nat,
          I75 k76 [Value.bool b18, Value.int IntKind.i64 (0 : Int)] w21) ∧
         ∀ b77 : Bool,
         ∀ n78 : Int,
         ∀ k79 : Nat,
         ∀ w80 : World,
         (
          I75 k79 [Value.bool b77, Value.int IntKind.i64 n78] w80) →
         Br (decide (n78 < (4 : Int)))
          (
           Ca Try.prog (9 : Nat) #[Value.pointer p10, Value.int IntKind.i64 n78] w80 fun e81 w82 =>
           ∃ n83 : Int,
           (
            e81 = Ending.returned (Value.int IntKind.i64 n83)) ∧
           Ca Try.prog (9 : Nat) #[Value.pointer p14, Value.int IntKind.i64 n78] w82 fun e84 w85 =>
           ∃ n86 : Int,
           (
            e84 = Ending.returned (Value.int IntKind.i64 n86)) ∧
           Br (n83 != n86)
            (
             R (Ending.returned (Value.bool false)) w85)
            (
             Ca Try.prog (9 : Nat) #[Value.pointer p10, Value.int IntKind.i64 n78] w85 fun e87 w88 =>
             ∃ n89 : Int,
             (
              e87 = Ending.returned (Value.int IntKind.i64 n89)) ∧
             Br (decide (n89 < (0 : Int)))
              (
               R (Ending.returned (Value.bool false)) w88)
              (
               Ca Try.prog (9 : Nat) #[Value.pointer p10, Value.int IntKind.i64 n78] w88 fun e90 w91 =>
               ∃ n92 : Int,
               (
                e90 = Ending.returned (Value.int IntKind.i64 n92)) ∧
               Br (decide (n92 > (4611686018427387904 : Int)))
                (
                 R (Ending.returned (Value.bool false)) w91)
                (
                 LetI (IntKind.i64.wrap (n78 + (1 : Int))) fun n93 =>
                 ∃ k94 : Nat,
                 (
                  k94 < k79) ∧
                 I75 k94 [Value.bool b77, Value.int IntKind.i64 n93] w91))))
          (
           Ca Try.prog (6 : Nat) #[] w80 fun e95 w96 =>
           ∃ b97 : Bool,
           (
            e95 = Ending.returned (Value.bool b97)) ∧
           R (Ending.returned (Value.bool b97)) w96)))))
theorem lawOrder_ok (p1 : Option Addr) (k2 : Nat) (k3 : Nat) (n4 : Int) (w : World) (R : Ending → World → Prop) (h : lawOrder p1 k2 k3 n4 w R) : Ca Try.prog 3 #[Value.slice p1 k2 k3, Value.int IntKind.u8 n4] w R :=
  Ca.of_fvc (c := bodyOf Try.f3) (by kernel_rfl) Try.func3 (by kernel_rfl) [] (Eq.mp (by kernel_rfl) h)

def lawPlay (n1 : Int) (p2 : Option Addr) (k3 : Nat) (_k4 : Nat) (w : World) (R : Ending → World → Prop) : Prop :=
 Br (decide ((↑k3 : Int) > (100 : Int)))
  (
   Ca Try.prog (6 : Nat) #[] w fun e5 w6 =>
   ∃ b7 : Bool,
   (
    e5 = Ending.returned (Value.bool b7)) ∧
   R (Ending.returned (Value.bool b7)) w6)
  (
   Ca Try.prog (7 : Nat) #[Value.int IntKind.i64 n1] w fun e8 w9 =>
   ∃ p10 : Option Addr,
   ∃ n11 : Int,
   (
    e8 = Ending.returned (Value.tuple #[Value.pointer p10, Value.int IntKind.i64 n11])) ∧
   Ca Try.prog (10 : Nat) #[Value.int IntKind.i64 n1] w9 fun e12 w13 =>
   ∃ p14 : Option Addr,
   ∃ k15 : Nat,
   ∃ k16 : Nat,
   ∃ n17 : Int,
   (
    e12 = Ending.returned (Value.tuple #[Value.slice p14 k15 k16, Value.int IntKind.i64 n17])) ∧
   Br (n11 != n17)
    (
     Br (n11 == n17)
      (
       Br (p10.isNone)
        (
         Ca Try.prog (6 : Nat) #[] w13 fun e18 w19 =>
         ∃ b20 : Bool,
         (
          e18 = Ending.returned (Value.bool b20)) ∧
         R (Ending.returned (Value.bool b20)) w19)
        (
         R (Ending.returned (Value.bool false)) w13))
      (
       R (Ending.returned (Value.bool false)) w13))
    (
     Br (n17 != (0 : Int))
      (
       Br (n11 == n17)
        (
         Br (p10.isNone)
          (
           Ca Try.prog (6 : Nat) #[] w13 fun e21 w22 =>
           ∃ b23 : Bool,
           (
            e21 = Ending.returned (Value.bool b23)) ∧
           R (Ending.returned (Value.bool b23)) w22)
          (
           R (Ending.returned (Value.bool false)) w13))
        (
         R (Ending.returned (Value.bool false)) w13))
      (
       ∃ I24 : Nat → List Value → World → Prop,
       (
        ∃ k25 : Nat,
        I24 k25 [Value.bool false, Value.slice p14 k15 k16, Value.int IntKind.i64 (0 : Int)] w13) ∧
       ∀ b26 : Bool,
       ∀ p27 : Option Addr,
       ∀ k28 : Nat,
       ∀ k29 : Nat,
       ∀ n30 : Int,
       ∀ k31 : Nat,
       ∀ w32 : World,
       (
        I24 k31 [Value.bool b26, Value.slice p27 k28 k29, Value.int IntKind.i64 n30] w32) →
       Br (decide (n30 < (↑k3 : Int)))
        (
         Ca Try.prog (11 : Nat) #[Value.pointer p10] w32 fun e33 w34 =>
         ∃ p35 : Option Addr,
         (
          e33 = Ending.returned (Value.pointer p35)) ∧
         NilOk p2 fun a36 =>
         (
          (
           (0 : Int) ≤ n30) ∧
          n30 < (↑k3 : Int)) ∧
         ∃ n37 : Int,
         (
          w34.cell? (a36.add (n30.toNat * (2 : Nat))) = some (Value.int IntKind.i64 n37)) ∧
         NilOk p2 fun a38 =>
         (
          (
           (0 : Int) ≤ n30) ∧
          n30 < (↑k3 : Int)) ∧
         ∃ n39 : Int,
         (
          w34.cell? ((a38.add (n30.toNat * (2 : Nat))).add (1 : Nat)) = some (Value.int IntKind.i64 n39)) ∧
         Ca Try.prog (8 : Nat) #[Value.pointer p10, Value.int IntKind.i64 n37, Value.int IntKind.i64 n39] w34 fun e40 w41 =>
         ∃ n42 : Int,
         ∃ n43 : Int,
         (
          e40 = Ending.returned (Value.tuple #[Value.int IntKind.i64 n42, Value.int IntKind.i64 n43])) ∧
         NilOk p2 fun a44 =>
         (
          (
           (0 : Int) ≤ n30) ∧
          n30 < (↑k3 : Int)) ∧
         ∃ n45 : Int,
         (
          w41.cell? (a44.add (n30.toNat * (2 : Nat))) = some (Value.int IntKind.i64 n45)) ∧
         NilOk p2 fun a46 =>
         (
          (
           (0 : Int) ≤ n30) ∧
          n30 < (↑k3 : Int)) ∧
         ∃ n47 : Int,
         (
          w41.cell? ((a46.add (n30.toNat * (2 : Nat))).add (1 : Nat)) = some (Value.int IntKind.i64 n47)) ∧
         Ca Try.prog (12 : Nat) #[Value.slice p27 k28 k29, Value.int IntKind.i64 n45, Value.int IntKind.i64 n47] w41 fun e48 w49 =>
         ∃ p50 : Option Addr,
         ∃ k51 : Nat,
         ∃ k52 : Nat,
         ∃ n53 : Int,
         ∃ n54 : Int,
         (
          e48 = Ending.returned (Value.tuple #[Value.slice p50 k51 k52, Value.int IntKind.i64 n53, Value.int IntKind.i64 n54])) ∧
         Br (n42 != n53)
          (
           R (Ending.returned (Value.bool false)) w49)
          (
           Br (n43 != n54)
            (
             R (Ending.returned (Value.bool false)) w49)
            (
             Ca Try.prog (13 : Nat) #[Value.pointer p35, Value.slice p27 k28 k29] w49 fun e55 w56 =>
             ∃ b57 : Bool,
             (
              e55 = Ending.returned (Value.bool b57)) ∧
             Br (!b57)
              (
               R (Ending.returned (Value.bool false)) w56)
              (
               Ca Try.prog (13 : Nat) #[Value.pointer p10, Value.slice p50 k51 k52] w56 fun e58 w59 =>
               ∃ b60 : Bool,
               (
                e58 = Ending.returned (Value.bool b60)) ∧
               Br (!b60)
                (
                 R (Ending.returned (Value.bool false)) w59)
                (
                 Ca Try.prog (8 : Nat) #[Value.pointer p35, Value.int IntKind.i64 (0 : Int), Value.int IntKind.i64 (5 : Int)] w59 fun e61 w62 =>
                 ∃ n63 : Int,
                 ∃ n64 : Int,
                 (
                  e61 = Ending.returned (Value.tuple #[Value.int IntKind.i64 n63, Value.int IntKind.i64 n64])) ∧
                 LetI (IntKind.i64.wrap (n30 + (1 : Int))) fun n65 =>
                 ∃ k66 : Nat,
                 (
                  k66 < k31) ∧
                 I24 k66 [Value.bool b26, Value.slice p50 k51 k52, Value.int IntKind.i64 n65] w62)))))
        (
         Ca Try.prog (13 : Nat) #[Value.pointer p10, Value.slice p27 k28 k29] w32 fun e67 w68 =>
         ∃ b69 : Bool,
         (
          e67 = Ending.returned (Value.bool b69)) ∧
         Br (b69)
          (
           Ca Try.prog (6 : Nat) #[] w68 fun e70 w71 =>
           ∃ b72 : Bool,
           (
            e70 = Ending.returned (Value.bool b72)) ∧
           R (Ending.returned (Value.bool b72)) w71)
          (
           R (Ending.returned (Value.bool false)) w68)))))
theorem lawPlay_ok (n1 : Int) (p2 : Option Addr) (k3 : Nat) (k4 : Nat) (w : World) (R : Ending → World → Prop) (h : lawPlay n1 p2 k3 k4 w R) : Ca Try.prog 4 #[Value.int IntKind.i64 n1, Value.slice p2 k3 k4] w R :=
  Ca.of_fvc (c := bodyOf Try.f4) (by kernel_rfl) Try.func4 (by kernel_rfl) [] (Eq.mp (by kernel_rfl) h)

def lawNone (n1 : Int) (n2 : Int) (w : World) (R : Ending → World → Prop) : Prop :=
 LetA (Obj.cells #[Value.int IntKind.i64 n1, Value.int IntKind.i64 n2] (29 : Nat)) w fun b3 w4 =>
 ∃ I5 : Nat → List Value → World → Prop,
 (
  ∃ k6 : Nat,
  I5 k6 [Value.bool false, Value.pointer none, Value.int IntKind.i64 (0 : Int)] w4) ∧
 ∀ b7 : Bool,
 ∀ p8 : Option Addr,
 ∀ n9 : Int,
 ∀ k10 : Nat,
 ∀ w11 : World,
 (
  I5 k10 [Value.bool b7, Value.pointer p8, Value.int IntKind.i64 n9] w11) →
 Br (decide (n9 < (2 : Int)))
  (
   ∃ n12 : Int,
   (
    w11.cell? { block := b3, off := (0 : Nat) } = some (Value.int IntKind.i64 n12)) ∧
   ∃ n13 : Int,
   (
    w11.cell? { block := b3, off := (1 : Nat) } = some (Value.int IntKind.i64 n13)) ∧
   Ca Try.prog (8 : Nat) #[Value.pointer p8, Value.int IntKind.i64 n12, Value.int IntKind.i64 n13] w11 fun e14 w15 =>
   ∃ n16 : Int,
   ∃ n17 : Int,
   (
    e14 = Ending.returned (Value.tuple #[Value.int IntKind.i64 n16, Value.int IntKind.i64 n17])) ∧
   Br (n16 != (0 : Int))
    (
     R (Ending.returned (Value.bool false)) w15)
    (
     Br (n17 != (1 : Int))
      (
       R (Ending.returned (Value.bool false)) w15)
      (
       ∃ n18 : Int,
       (
        w15.cell? { block := b3, off := (0 : Nat) } = some (Value.int IntKind.i64 n18)) ∧
       Ca Try.prog (9 : Nat) #[Value.pointer p8, Value.int IntKind.i64 n18] w15 fun e19 w20 =>
       ∃ n21 : Int,
       (
        e19 = Ending.returned (Value.int IntKind.i64 n21)) ∧
       Br (n21 != (0 : Int))
        (
         R (Ending.returned (Value.bool false)) w20)
        (
         Ca Try.prog (14 : Nat) #[Value.pointer p8] w20 fun e22 w23 =>
         ∃ p24 : Option Addr,
         ∃ k25 : Nat,
         ∃ k26 : Nat,
         (
          e22 = Ending.returned (Value.slice p24 k25 k26)) ∧
         Br ((↑k25 : Int) != (0 : Int))
          (
           R (Ending.returned (Value.bool false)) w23)
          (
           Ca Try.prog (11 : Nat) #[Value.pointer p8] w23 fun e27 w28 =>
           ∃ p29 : Option Addr,
           (
            e27 = Ending.returned (Value.pointer p29)) ∧
           Br (!p29.isNone)
            (
             R (Ending.returned (Value.bool false)) w28)
            (
             LetA (Obj.cells #[Value.slice none (0 : Nat) (0 : Nat)] (45 : Nat)) w28 fun b30 w31 =>
             LetI (IntKind.i64.wrap (n9 + (1 : Int))) fun n32 =>
             ∃ k33 : Nat,
             (
              k33 < k10) ∧
             I5 k33 [Value.bool b7, Value.pointer (some { block := b30, off := (0 : Nat) }), Value.int IntKind.i64 n32] w31))))))
  (
   Ca Try.prog (6 : Nat) #[] w11 fun e34 w35 =>
   ∃ b36 : Bool,
   (
    e34 = Ending.returned (Value.bool b36)) ∧
   R (Ending.returned (Value.bool b36)) w35)
theorem lawNone_ok (n1 : Int) (n2 : Int) (w : World) (R : Ending → World → Prop) (h : lawNone n1 n2 w R) : Ca Try.prog 5 #[Value.agg #[Value.int IntKind.i64 n1, Value.int IntKind.i64 n2]] w R :=
  Ca.of_fvc (c := bodyOf Try.f5) (by kernel_rfl) Try.func5 (by kernel_rfl) [] (Eq.mp (by kernel_rfl) h)

def added (w : World) (R : Ending → World → Prop) : Prop :=
 Ca Try.prog (7 : Nat) #[Value.int IntKind.i64 (2 : Int)] w fun e1 w2 =>
 ∃ p3 : Option Addr,
 ∃ n4 : Int,
 (
  e1 = Ending.returned (Value.tuple #[Value.pointer p3, Value.int IntKind.i64 n4])) ∧
 Ca Try.prog (8 : Nat) #[Value.pointer p3, Value.int IntKind.i64 (1 : Int), Value.int IntKind.i64 (5 : Int)] w2 fun e5 w6 =>
 ∃ n7 : Int,
 ∃ n8 : Int,
 (
  e5 = Ending.returned (Value.tuple #[Value.int IntKind.i64 n7, Value.int IntKind.i64 n8])) ∧
 Ca Try.prog (8 : Nat) #[Value.pointer p3, Value.int IntKind.i64 (1 : Int), Value.int IntKind.i64 (4611686018427387904 : Int)] w6 fun e9 w10 =>
 ∃ n11 : Int,
 ∃ n12 : Int,
 (
  e9 = Ending.returned (Value.tuple #[Value.int IntKind.i64 n11, Value.int IntKind.i64 n12])) ∧
 Ca Try.prog (8 : Nat) #[Value.pointer p3, Value.int IntKind.i64 (2 : Int), Value.int IntKind.i64 (1 : Int)] w10 fun e13 w14 =>
 ∃ n15 : Int,
 ∃ n16 : Int,
 (
  e13 = Ending.returned (Value.tuple #[Value.int IntKind.i64 n15, Value.int IntKind.i64 n16])) ∧
 Ca Try.prog (8 : Nat) #[Value.pointer p3, Value.int IntKind.i64 (0 : Int), Value.int IntKind.i64 (-1 : Int)] w14 fun e17 w18 =>
 ∃ n19 : Int,
 ∃ n20 : Int,
 (
  e17 = Ending.returned (Value.tuple #[Value.int IntKind.i64 n19, Value.int IntKind.i64 n20])) ∧
 Ca Try.prog (14 : Nat) #[Value.pointer p3] w18 fun e21 w22 =>
 ∃ p23 : Option Addr,
 ∃ k24 : Nat,
 ∃ k25 : Nat,
 (
  e21 = Ending.returned (Value.slice p23 k24 k25)) ∧
 Br (n4 == (0 : Int))
  (
   Br (n7 == (5 : Int))
    (
     Br (n8 == (0 : Int))
      (
       Br (n11 == (4611686018427387904 : Int))
        (
         Br (n12 == (0 : Int))
          (
           Br (n16 == (4 : Int))
            (
             Br (n20 == (2 : Int))
              (
               Br ((↑k24 : Int) == (2 : Int))
                (
                 NilOk p23 fun a26 =>
                 (
                  (
                   (0 : Int) ≤ (0 : Int)) ∧
                  (0 : Int) < (↑k24 : Int)) ∧
                 ∃ n27 : Int,
                 (
                  w22.cell? a26 = some (Value.int IntKind.i64 n27)) ∧
                 Br (n27 == (0 : Int))
                  (
                   NilOk p23 fun a28 =>
                   (
                    (
                     (0 : Int) ≤ (1 : Int)) ∧
                    (1 : Int) < (↑k24 : Int)) ∧
                   ∃ n29 : Int,
                   (
                    w22.cell? (a28.add (1 : Nat)) = some (Value.int IntKind.i64 n29)) ∧
                   R (Ending.returned (Value.bool (n29 == (4611686018427387904 : Int)))) w22)
                  (
                   R (Ending.returned (Value.bool false)) w22))
                (
                 R (Ending.returned (Value.bool false)) w22))
              (
               R (Ending.returned (Value.bool false)) w22))
            (
             R (Ending.returned (Value.bool false)) w22))
          (
           R (Ending.returned (Value.bool false)) w22))
        (
         R (Ending.returned (Value.bool false)) w22))
      (
       R (Ending.returned (Value.bool false)) w22))
    (
     R (Ending.returned (Value.bool false)) w22))
  (
   R (Ending.returned (Value.bool false)) w22)
theorem added_ok (w : World) (R : Ending → World → Prop) (h : added  w R) : Ca Try.prog 6 #[] w R :=
  Ca.of_fvc (c := bodyOf Try.f6) (by kernel_rfl) Try.func6 (by kernel_rfl) [] (Eq.mp (by kernel_rfl) h)

end Go.Proofs.Ytpnmcimjolmnoaa
