/- The verification conditions of this seat's functions, printed by a program; the kernel holds each against the loaded code. -/
import Derived.Test.YtljipmhkpnigkaaProg
import Derived.KernelRfl
import Derived.Test.YtljipmhkpnigkaaV5
import Derived.Test.YtljipmhkpnigkaaDC
set_option maxRecDepth 100000
namespace Go.Proofs.Ytljipmhkpnigkaa
open Go Go.Vc Go.Proofs
def mnear (n1 : Int) (w : World) (R : Ending → World → Prop) : Prop :=
 LetI (max n1 (0 : Int)) fun n2 =>
 LetI (min n2 (1099511627776 : Int)) fun n3 =>
 R (Ending.returned (Value.int IntKind.i64 n3)) w
theorem mnear_ok (n1 : Int) (w : World) (R : Ending → World → Prop) (h : mnear n1 w R) : Ca Try.prog 59 #[Value.int IntKind.i64 n1] w R :=
  Ca.of_fvc (c := bodyOf Try.f59) (by kernel_rfl) Try.func59 (by kernel_rfl) [] (Eq.mp (by kernel_rfl) h)

def mown (n1 : Int) (p2 : Option Addr) (k3 : Nat) (k4 : Nat) (n5 : Int) (w : World) (R : Ending → World → Prop) : Prop :=
 LetA (Obj.cells #[Value.int IntKind.i64 n1, Value.slice p2 k3 k4, Value.int IntKind.i64 n5] (32 : Nat)) w fun b6 w7 =>
 LetA (Obj.cells #[Value.int IntKind.i64 (0 : Int), Value.slice none (0 : Nat) (0 : Nat), Value.int IntKind.i64 (0 : Int)] (32 : Nat)) w7 fun b8 w9 =>
 ∃ p10 : Option Addr,
 ∃ k11 : Nat,
 ∃ k12 : Nat,
 (
  w9.cell? { block := b6, off := (1 : Nat) } = some (Value.slice p10 k11 k12)) ∧
 RunsV Try.prog (Builtin.append_ #[(30 : Nat), (30 : Nat)] (30 : Nat) #[Value.slice none (0 : Nat) (0 : Nat), Value.slice p10 k11 k12]) w9 fun v13 w14 =>
 ∃ p15 : Option Addr,
 ∃ k16 : Nat,
 ∃ k17 : Nat,
 (
  v13 = Value.slice p15 k16 k17) ∧
 (
  Wr w14 { block := b6, off := (1 : Nat) }) ∧
 LetW (w14.setCell { block := b6, off := (1 : Nat) } (Value.slice p15 k16 k17)) fun w18 =>
 ∃ n19 : Int,
 ∃ p20 : Option Addr,
 ∃ k21 : Nat,
 ∃ k22 : Nat,
 ∃ n23 : Int,
 (
  Row w18 { block := b6, off := (0 : Nat) } (0 : Nat) [Value.int IntKind.i64 n19, Value.slice p20 k21 k22, Value.int IntKind.i64 n23]) ∧
 (
  WrRow w18 { block := b8, off := (0 : Nat) } (0 : Nat) [Value.int IntKind.i64 n19, Value.slice p20 k21 k22, Value.int IntKind.i64 n23]) ∧
 LetW (setRow w18 { block := b8, off := (0 : Nat) } (0 : Nat) [Value.int IntKind.i64 n19, Value.slice p20 k21 k22, Value.int IntKind.i64 n23]) fun w24 =>
 ∃ n25 : Int,
 ∃ p26 : Option Addr,
 ∃ k27 : Nat,
 ∃ k28 : Nat,
 ∃ n29 : Int,
 (
  Row w24 { block := b8, off := (0 : Nat) } (0 : Nat) [Value.int IntKind.i64 n25, Value.slice p26 k27 k28, Value.int IntKind.i64 n29]) ∧
 R (Ending.returned (Value.agg #[Value.int IntKind.i64 n25, Value.slice p26 k27 k28, Value.int IntKind.i64 n29])) w24
theorem mown_ok (n1 : Int) (p2 : Option Addr) (k3 : Nat) (k4 : Nat) (n5 : Int) (w : World) (R : Ending → World → Prop) (h : mown n1 p2 k3 k4 n5 w R) : Ca Try.prog 64 #[Value.agg #[Value.int IntKind.i64 n1, Value.slice p2 k3 k4, Value.int IntKind.i64 n5]] w R :=
  Ca.of_fvc (c := bodyOf Try.f64) (by kernel_rfl) Try.func64 (by kernel_rfl) [] (Eq.mp (by kernel_rfl) h)

def mnone (b1 : Nat) (w : World) (R : Ending → World → Prop) : Prop :=
 ∃ n2 : Int,
 (
  w.cell? { block := b1, off := (12 : Nat) } = some (Value.int IntKind.i64 n2)) ∧
 R (Ending.returned (Value.bool (n2 == (0 : Int)))) w
theorem mnone_ok (b1 : Nat) (w : World) (R : Ending → World → Prop) (h : mnone b1 w R) : Ca Try.prog 56 #[Value.pointer (some { block := b1, off := (0 : Nat) })] w R :=
  Ca.of_fvc (c := bodyOf Try.f56) (by kernel_rfl) Try.func56 (by kernel_rfl) [] (Eq.mp (by kernel_rfl) h)

def mmember (b1 : Nat) (n2 : Int) (w : World) (R : Ending → World → Prop) : Prop :=
 ∃ n3 : Int,
 ∃ p4 : Option Addr,
 ∃ k5 : Nat,
 ∃ k6 : Nat,
 ∃ n7 : Int,
 (
  Row w { block := b1, off := (12 : Nat) } (0 : Nat) [Value.int IntKind.i64 n3, Value.slice p4 k5 k6, Value.int IntKind.i64 n7]) ∧
 Ca Try.prog (32 : Nat) #[Value.agg #[Value.int IntKind.i64 n3, Value.slice p4 k5 k6, Value.int IntKind.i64 n7], Value.int IntKind.i64 n2] w fun e8 w9 =>
 ∃ n10 : Int,
 ∃ b11 : Bool,
 (
  e8 = Ending.returned (Value.tuple #[Value.int IntKind.i64 n10, Value.bool b11])) ∧
 R (Ending.returned (Value.bool b11)) w9
theorem mmember_ok (b1 : Nat) (n2 : Int) (w : World) (R : Ending → World → Prop) (h : mmember b1 n2 w R) : Ca Try.prog 67 #[Value.pointer (some { block := b1, off := (0 : Nat) }), Value.int IntKind.i64 n2] w R :=
  Ca.of_fvc (c := bodyOf Try.f67) (by kernel_rfl) Try.func67 (by kernel_rfl) [] (Eq.mp (by kernel_rfl) h)

def mgoes (b1 : Nat) (n2 : Int) (w : World) (R : Ending → World → Prop) : Prop :=
 ∃ p3 : Option Addr,
 ∃ k4 : Nat,
 ∃ k5 : Nat,
 (
  w.cell? { block := b1, off := (13 : Nat) } = some (Value.slice p3 k4 k5)) ∧
 ∃ I6 : Nat → List Value → World → Prop,
 (
  ∃ k7 : Nat,
  I6 k7 [Value.bool false, Value.int IntKind.i64 (0 : Int)] w) ∧
 ∀ b8 : Bool,
 ∀ n9 : Int,
 ∀ k10 : Nat,
 ∀ w11 : World,
 (
  I6 k10 [Value.bool b8, Value.int IntKind.i64 n9] w11) →
 Br (decide (n9 < (↑k4 : Int)))
  (
   NilOk p3 fun a12 =>
   (
    (
     (0 : Int) ≤ n9) ∧
    n9 < (↑k4 : Int)) ∧
   ∃ n13 : Int,
   ∃ n14 : Int,
   (
    Row w11 (a12.add (n9.toNat * (2 : Nat))) (0 : Nat) [Value.int IntKind.i64 n13, Value.int IntKind.i64 n14]) ∧
   LetA (Obj.cells #[Value.int IntKind.i64 (0 : Int), Value.int IntKind.i64 (0 : Int)] (64 : Nat)) w11 fun b15 w16 =>
   (
    WrRow w16 { block := b15, off := (0 : Nat) } (0 : Nat) [Value.int IntKind.i64 n13, Value.int IntKind.i64 n14]) ∧
   LetW (setRow w16 { block := b15, off := (0 : Nat) } (0 : Nat) [Value.int IntKind.i64 n13, Value.int IntKind.i64 n14]) fun w17 =>
   ∃ n18 : Int,
   (
    w17.cell? { block := b15, off := (0 : Nat) } = some (Value.int IntKind.i64 n18)) ∧
   Br (n18 != n2)
    (
     ∃ n19 : Int,
     (
      w17.cell? { block := b15, off := (0 : Nat) } = some (Value.int IntKind.i64 n19)) ∧
     (
      (
       (0 : Int) ≤ n19) ∧
      n19 < (↑(6 : Nat) : Int)) ∧
     ∃ b20 : Bool,
     (
      w17.cell? ((Addr.mk b1 (21 : Nat) none).add (n19.toNat * (1 : Nat))) = some (Value.bool b20)) ∧
     Br (b20)
      (
       R (Ending.returned (Value.bool true)) w17)
      (
       LetI (IntKind.i64.wrap (n9 + (1 : Int))) fun n21 =>
       ∃ k22 : Nat,
       (
        k22 < k10) ∧
       I6 k22 [Value.bool b8, Value.int IntKind.i64 n21] w17))
    (
     LetI (IntKind.i64.wrap (n9 + (1 : Int))) fun n23 =>
     ∃ k24 : Nat,
     (
      k24 < k10) ∧
     I6 k24 [Value.bool b8, Value.int IntKind.i64 n23] w17))
  (
   R (Ending.returned (Value.bool false)) w11)
theorem mgoes_ok (b1 : Nat) (n2 : Int) (w : World) (R : Ending → World → Prop) (h : mgoes b1 n2 w R) : Ca Try.prog 61 #[Value.pointer (some { block := b1, off := (0 : Nat) }), Value.int IntKind.i64 n2] w R :=
  Ca.of_fvc (c := bodyOf Try.f61) (by kernel_rfl) Try.func61 (by kernel_rfl) [] (Eq.mp (by kernel_rfl) h)

def mconfig (b1 : Nat) (n2 : Int) (w : World) (R : Ending → World → Prop) : Prop :=
 LetA (Obj.cells #[Value.int IntKind.i64 (0 : Int), Value.int IntKind.i64 (0 : Int), Value.int IntKind.i64 (0 : Int), Value.int IntKind.i64 (0 : Int), Value.int IntKind.i64 (0 : Int), Value.int IntKind.i64 (0 : Int), Value.int IntKind.i64 (0 : Int), Value.int IntKind.i64 (0 : Int), Value.int IntKind.i64 (0 : Int), Value.string { data := #[] }, Value.string { data := #[] }, Value.int IntKind.i64 (0 : Int), Value.int IntKind.i64 (0 : Int), Value.string { data := #[] }, Value.int IntKind.i64 (0 : Int), Value.int IntKind.i64 (0 : Int), Value.int IntKind.i64 (0 : Int), Value.int IntKind.i64 (0 : Int), Value.int IntKind.i64 (0 : Int), Value.int IntKind.i64 (0 : Int), Value.int IntKind.i64 (0 : Int), Value.string { data := #[] }, Value.string { data := #[] }, Value.int IntKind.i64 (0 : Int), Value.int IntKind.i64 (0 : Int), Value.slice none (0 : Nat) (0 : Nat), Value.int IntKind.i64 (0 : Int), Value.int IntKind.i64 (0 : Int), Value.int IntKind.i64 (0 : Int), Value.int IntKind.i64 (0 : Int)] (70 : Nat)) w fun b3 w4 =>
 ∃ n5 : Int,
 ∃ p6 : Option Addr,
 ∃ k7 : Nat,
 ∃ k8 : Nat,
 ∃ n9 : Int,
 (
  Row w4 { block := b1, off := (12 : Nat) } (0 : Nat) [Value.int IntKind.i64 n5, Value.slice p6 k7 k8, Value.int IntKind.i64 n9]) ∧
 Ca Try.prog (64 : Nat) #[Value.agg #[Value.int IntKind.i64 n5, Value.slice p6 k7 k8, Value.int IntKind.i64 n9]] w4 fun e10 w11 =>
 ∃ n12 : Int,
 ∃ p13 : Option Addr,
 ∃ k14 : Nat,
 ∃ k15 : Nat,
 ∃ n16 : Int,
 (
  e10 = Ending.returned (Value.agg #[Value.int IntKind.i64 n12, Value.slice p13 k14 k15, Value.int IntKind.i64 n16])) ∧
 (
  WrRow w11 { block := b3, off := (0 : Nat) } (0 : Nat) [Value.int IntKind.i64 n2, Value.int IntKind.i64 (8 : Int), Value.int IntKind.i64 (0 : Int), Value.int IntKind.i64 (0 : Int), Value.int IntKind.i64 (0 : Int), Value.int IntKind.i64 (0 : Int), Value.int IntKind.i64 (0 : Int), Value.int IntKind.i64 (0 : Int), Value.int IntKind.i64 (0 : Int), Value.string { data := #[] }, Value.string { data := #[] }, Value.int IntKind.i64 (0 : Int), Value.int IntKind.i64 (0 : Int), Value.string { data := #[] }, Value.int IntKind.i64 (0 : Int), Value.int IntKind.i64 (0 : Int), Value.int IntKind.i64 (0 : Int), Value.int IntKind.i64 (0 : Int), Value.int IntKind.i64 (0 : Int), Value.int IntKind.i64 (0 : Int), Value.int IntKind.i64 (0 : Int), Value.string { data := #[] }, Value.string { data := #[] }, Value.int IntKind.i64 (0 : Int), Value.int IntKind.i64 n12, Value.slice p13 k14 k15, Value.int IntKind.i64 n16, Value.int IntKind.i64 (0 : Int), Value.int IntKind.i64 (0 : Int), Value.int IntKind.i64 (0 : Int)]) ∧
 LetW (setRow w11 { block := b3, off := (0 : Nat) } (0 : Nat) [Value.int IntKind.i64 n2, Value.int IntKind.i64 (8 : Int), Value.int IntKind.i64 (0 : Int), Value.int IntKind.i64 (0 : Int), Value.int IntKind.i64 (0 : Int), Value.int IntKind.i64 (0 : Int), Value.int IntKind.i64 (0 : Int), Value.int IntKind.i64 (0 : Int), Value.int IntKind.i64 (0 : Int), Value.string { data := #[] }, Value.string { data := #[] }, Value.int IntKind.i64 (0 : Int), Value.int IntKind.i64 (0 : Int), Value.string { data := #[] }, Value.int IntKind.i64 (0 : Int), Value.int IntKind.i64 (0 : Int), Value.int IntKind.i64 (0 : Int), Value.int IntKind.i64 (0 : Int), Value.int IntKind.i64 (0 : Int), Value.int IntKind.i64 (0 : Int), Value.int IntKind.i64 (0 : Int), Value.string { data := #[] }, Value.string { data := #[] }, Value.int IntKind.i64 (0 : Int), Value.int IntKind.i64 n12, Value.slice p13 k14 k15, Value.int IntKind.i64 n16, Value.int IntKind.i64 (0 : Int), Value.int IntKind.i64 (0 : Int), Value.int IntKind.i64 (0 : Int)]) fun w17 =>
 ∃ n18 : Int,
 ∃ n19 : Int,
 ∃ n20 : Int,
 ∃ n21 : Int,
 ∃ n22 : Int,
 ∃ n23 : Int,
 ∃ n24 : Int,
 ∃ n25 : Int,
 ∃ n26 : Int,
 ∃ s27 : ByteArray,
 ∃ s28 : ByteArray,
 ∃ n29 : Int,
 ∃ n30 : Int,
 ∃ s31 : ByteArray,
 ∃ n32 : Int,
 ∃ n33 : Int,
 ∃ n34 : Int,
 ∃ n35 : Int,
 ∃ n36 : Int,
 ∃ n37 : Int,
 ∃ n38 : Int,
 ∃ s39 : ByteArray,
 ∃ s40 : ByteArray,
 ∃ n41 : Int,
 ∃ n42 : Int,
 ∃ p43 : Option Addr,
 ∃ k44 : Nat,
 ∃ k45 : Nat,
 ∃ n46 : Int,
 ∃ n47 : Int,
 ∃ n48 : Int,
 ∃ n49 : Int,
 (
  Row w17 { block := b3, off := (0 : Nat) } (0 : Nat) [Value.int IntKind.i64 n18, Value.int IntKind.i64 n19, Value.int IntKind.i64 n20, Value.int IntKind.i64 n21, Value.int IntKind.i64 n22, Value.int IntKind.i64 n23, Value.int IntKind.i64 n24, Value.int IntKind.i64 n25, Value.int IntKind.i64 n26, Value.string s27, Value.string s28, Value.int IntKind.i64 n29, Value.int IntKind.i64 n30, Value.string s31, Value.int IntKind.i64 n32, Value.int IntKind.i64 n33, Value.int IntKind.i64 n34, Value.int IntKind.i64 n35, Value.int IntKind.i64 n36, Value.int IntKind.i64 n37, Value.int IntKind.i64 n38, Value.string s39, Value.string s40, Value.int IntKind.i64 n41, Value.int IntKind.i64 n42, Value.slice p43 k44 k45, Value.int IntKind.i64 n46, Value.int IntKind.i64 n47, Value.int IntKind.i64 n48, Value.int IntKind.i64 n49]) ∧
 R (Ending.returned (Value.agg #[Value.int IntKind.i64 n18, Value.int IntKind.i64 n19, Value.int IntKind.i64 n20, Value.int IntKind.i64 n21, Value.int IntKind.i64 n22, Value.int IntKind.i64 n23, Value.int IntKind.i64 n24, Value.int IntKind.i64 n25, Value.int IntKind.i64 n26, Value.string s27, Value.string s28, Value.int IntKind.i64 n29, Value.int IntKind.i64 n30, Value.string s31, Value.int IntKind.i64 n32, Value.int IntKind.i64 n33, Value.int IntKind.i64 n34, Value.int IntKind.i64 n35, Value.int IntKind.i64 n36, Value.int IntKind.i64 n37, Value.int IntKind.i64 n38, Value.string s39, Value.string s40, Value.int IntKind.i64 n41, Value.int IntKind.i64 n42, Value.slice p43 k44 k45, Value.int IntKind.i64 n46, Value.int IntKind.i64 n47, Value.int IntKind.i64 n48, Value.int IntKind.i64 n49])) w17
theorem mconfig_ok (b1 : Nat) (n2 : Int) (w : World) (R : Ending → World → Prop) (h : mconfig b1 n2 w R) : Ca Try.prog 57 #[Value.pointer (some { block := b1, off := (0 : Nat) }), Value.int IntKind.i64 n2] w R :=
  Ca.of_fvc (c := bodyOf Try.f57) (by kernel_rfl) Try.func57 (by kernel_rfl) [] (Eq.mp (by kernel_rfl) h)

def mall (b1 : Nat) (w : World) (R : Ending → World → Prop) : Prop :=
 ∃ n2 : Int,
 (
  w.cell? { block := b1, off := (0 : Nat) } = some (Value.int IntKind.i64 n2)) ∧
 ∃ I3 : Nat → List Value → World → Prop,
 (
  ∃ k4 : Nat,
  I3 k4 [Value.slice none (0 : Nat) (0 : Nat), Value.int IntKind.i64 (0 : Int)] w) ∧
 ∀ p5 : Option Addr,
 ∀ k6 : Nat,
 ∀ k7 : Nat,
 ∀ n8 : Int,
 ∀ k9 : Nat,
 ∀ w10 : World,
 (
  I3 k9 [Value.slice p5 k6 k7, Value.int IntKind.i64 n8] w10) →
 Br (decide (n8 < n2))
  (
   Ca Try.prog (57 : Nat) #[Value.pointer (some { block := b1, off := (0 : Nat) }), Value.int IntKind.i64 n8] w10 fun e11 w12 =>
   ∃ n13 : Int,
   ∃ n14 : Int,
   ∃ n15 : Int,
   ∃ n16 : Int,
   ∃ n17 : Int,
   ∃ n18 : Int,
   ∃ n19 : Int,
   ∃ n20 : Int,
   ∃ n21 : Int,
   ∃ s22 : ByteArray,
   ∃ s23 : ByteArray,
   ∃ n24 : Int,
   ∃ n25 : Int,
   ∃ s26 : ByteArray,
   ∃ n27 : Int,
   ∃ n28 : Int,
   ∃ n29 : Int,
   ∃ n30 : Int,
   ∃ n31 : Int,
   ∃ n32 : Int,
   ∃ n33 : Int,
   ∃ s34 : ByteArray,
   ∃ s35 : ByteArray,
   ∃ n36 : Int,
   ∃ n37 : Int,
   ∃ p38 : Option Addr,
   ∃ k39 : Nat,
   ∃ k40 : Nat,
   ∃ n41 : Int,
   ∃ n42 : Int,
   ∃ n43 : Int,
   ∃ n44 : Int,
   (
    e11 = Ending.returned (Value.agg #[Value.int IntKind.i64 n13, Value.int IntKind.i64 n14, Value.int IntKind.i64 n15, Value.int IntKind.i64 n16, Value.int IntKind.i64 n17, Value.int IntKind.i64 n18, Value.int IntKind.i64 n19, Value.int IntKind.i64 n20, Value.int IntKind.i64 n21, Value.string s22, Value.string s23, Value.int IntKind.i64 n24, Value.int IntKind.i64 n25, Value.string s26, Value.int IntKind.i64 n27, Value.int IntKind.i64 n28, Value.int IntKind.i64 n29, Value.int IntKind.i64 n30, Value.int IntKind.i64 n31, Value.int IntKind.i64 n32, Value.int IntKind.i64 n33, Value.string s34, Value.string s35, Value.int IntKind.i64 n36, Value.int IntKind.i64 n37, Value.slice p38 k39 k40, Value.int IntKind.i64 n41, Value.int IntKind.i64 n42, Value.int IntKind.i64 n43, Value.int IntKind.i64 n44])) ∧
   LetA (Obj.cells #[Value.int IntKind.i64 n13, Value.int IntKind.i64 n14, Value.int IntKind.i64 n15, Value.int IntKind.i64 n16, Value.int IntKind.i64 n17, Value.int IntKind.i64 n18, Value.int IntKind.i64 n19, Value.int IntKind.i64 n20, Value.int IntKind.i64 n21, Value.string s22, Value.string s23, Value.int IntKind.i64 n24, Value.int IntKind.i64 n25, Value.string s26, Value.int IntKind.i64 n27, Value.int IntKind.i64 n28, Value.int IntKind.i64 n29, Value.int IntKind.i64 n30, Value.int IntKind.i64 n31, Value.int IntKind.i64 n32, Value.int IntKind.i64 n33, Value.string s34, Value.string s35, Value.int IntKind.i64 n36, Value.int IntKind.i64 n37, Value.slice p38 k39 k40, Value.int IntKind.i64 n41, Value.int IntKind.i64 n42, Value.int IntKind.i64 n43, Value.int IntKind.i64 n44] (70 : Nat)) w12 fun b45 w46 =>
   RunsV Try.prog (Builtin.append_ #[(56 : Nat), (56 : Nat)] (56 : Nat) #[Value.slice p5 k6 k7, Value.slice (some { block := b45, off := (0 : Nat) }) (1 : Nat) (1 : Nat)]) w46 fun v47 w48 =>
   ∃ p49 : Option Addr,
   ∃ k50 : Nat,
   ∃ k51 : Nat,
   (
    v47 = Value.slice p49 k50 k51) ∧
   LetI (IntKind.i64.wrap (n8 + (1 : Int))) fun n52 =>
   ∃ k53 : Nat,
   (
    k53 < k9) ∧
   I3 k53 [Value.slice p49 k50 k51, Value.int IntKind.i64 n52] w48)
  (
   R (Ending.returned (Value.slice p5 k6 k7)) w10)
theorem mall_ok (b1 : Nat) (w : World) (R : Ending → World → Prop) (h : mall b1 w R) : Ca Try.prog 63 #[Value.pointer (some { block := b1, off := (0 : Nat) })] w R :=
  Ca.of_fvc (c := bodyOf Try.f63) (by kernel_rfl) Try.func63 (by kernel_rfl) [] (Eq.mp (by kernel_rfl) h)

def mout (b1 : Nat) (n2 : Int) (w : World) (R : Ending → World → Prop) : Prop :=
 ∃ n3 : Int,
 ∃ p4 : Option Addr,
 ∃ k5 : Nat,
 ∃ k6 : Nat,
 ∃ n7 : Int,
 (
  Row w { block := b1, off := (12 : Nat) } (0 : Nat) [Value.int IntKind.i64 n3, Value.slice p4 k5 k6, Value.int IntKind.i64 n7]) ∧
 Ca Try.prog (88 : Nat) #[Value.agg #[Value.int IntKind.i64 n3, Value.slice p4 k5 k6, Value.int IntKind.i64 n7], Value.int IntKind.i64 n2] w fun e8 w9 =>
 ∃ n10 : Int,
 ∃ p11 : Option Addr,
 ∃ k12 : Nat,
 ∃ k13 : Nat,
 ∃ n14 : Int,
 ∃ n15 : Int,
 (
  e8 = Ending.returned (Value.tuple #[Value.agg #[Value.int IntKind.i64 n10, Value.slice p11 k12 k13, Value.int IntKind.i64 n14], Value.int IntKind.i64 n15])) ∧
 LetA (Obj.cells #[Value.int IntKind.i64 (0 : Int), Value.slice none (0 : Nat) (0 : Nat), Value.int IntKind.i64 (0 : Int)] (32 : Nat)) w9 fun b16 w17 =>
 (
  WrRow w17 { block := b16, off := (0 : Nat) } (0 : Nat) [Value.int IntKind.i64 n10, Value.slice p11 k12 k13, Value.int IntKind.i64 n14]) ∧
 LetW (setRow w17 { block := b16, off := (0 : Nat) } (0 : Nat) [Value.int IntKind.i64 n10, Value.slice p11 k12 k13, Value.int IntKind.i64 n14]) fun w18 =>
 Br (n15 != (0 : Int))
  (
   R (Ending.returned (Value.bool false)) w18)
  (
   ∃ n19 : Int,
   ∃ p20 : Option Addr,
   ∃ k21 : Nat,
   ∃ k22 : Nat,
   ∃ n23 : Int,
   (
    Row w18 { block := b16, off := (0 : Nat) } (0 : Nat) [Value.int IntKind.i64 n19, Value.slice p20 k21 k22, Value.int IntKind.i64 n23]) ∧
   (
    WrRow w18 { block := b1, off := (12 : Nat) } (0 : Nat) [Value.int IntKind.i64 n19, Value.slice p20 k21 k22, Value.int IntKind.i64 n23]) ∧
   LetW (setRow w18 { block := b1, off := (12 : Nat) } (0 : Nat) [Value.int IntKind.i64 n19, Value.slice p20 k21 k22, Value.int IntKind.i64 n23]) fun w24 =>
   (
    (
     (0 : Int) ≤ n2) ∧
    n2 < (↑(6 : Nat) : Int)) ∧
   (
    Wr w24 ((Addr.mk b1 (21 : Nat) none).add (n2.toNat * (1 : Nat)))) ∧
   LetW (w24.setCell ((Addr.mk b1 (21 : Nat) none).add (n2.toNat * (1 : Nat))) (Value.bool false)) fun w25 =>
   R (Ending.returned (Value.bool true)) w25)
theorem mout_ok (b1 : Nat) (n2 : Int) (w : World) (R : Ending → World → Prop) (h : mout b1 n2 w R) : Ca Try.prog 62 #[Value.pointer (some { block := b1, off := (0 : Nat) }), Value.int IntKind.i64 n2] w R :=
  Ca.of_fvc (c := bodyOf Try.f62) (by kernel_rfl) Try.func62 (by kernel_rfl) [] (Eq.mp (by kernel_rfl) h)

def malive (b1 : Nat) (n2 : Int) (n3 : Int) (n4 : Int) (n5 : Int) (n6 : Int) (n7 : Int) (n8 : Int) (n9 : Int) (n10 : Int) (s11 : ByteArray) (s12 : ByteArray) (n13 : Int) (n14 : Int) (s15 : ByteArray) (n16 : Int) (n17 : Int) (n18 : Int) (n19 : Int) (n20 : Int) (n21 : Int) (n22 : Int) (s23 : ByteArray) (s24 : ByteArray) (n25 : Int) (n26 : Int) (p27 : Option Addr) (k28 : Nat) (k29 : Nat) (n30 : Int) (n31 : Int) (n32 : Int) (n33 : Int) (n34 : Int) (w : World) (R : Ending → World → Prop) : Prop :=
 LetA (Obj.cells #[Value.int IntKind.i64 n3, Value.int IntKind.i64 n4, Value.int IntKind.i64 n5, Value.int IntKind.i64 n6, Value.int IntKind.i64 n7, Value.int IntKind.i64 n8, Value.int IntKind.i64 n9, Value.int IntKind.i64 n10, Value.string s11, Value.string s12, Value.int IntKind.i64 n13, Value.int IntKind.i64 n14, Value.string s15, Value.int IntKind.i64 n16, Value.int IntKind.i64 n17, Value.int IntKind.i64 n18, Value.int IntKind.i64 n19, Value.int IntKind.i64 n20, Value.int IntKind.i64 n21, Value.int IntKind.i64 n22, Value.string s23, Value.string s24, Value.int IntKind.i64 n25, Value.int IntKind.i64 n26, Value.slice p27 k28 k29, Value.int IntKind.i64 n30, Value.int IntKind.i64 n31, Value.int IntKind.i64 n32, Value.int IntKind.i64 n33] (53 : Nat)) w fun b35 w36 =>
 (
  (
   (0 : Int) ≤ n2) ∧
  n2 < (↑(6 : Nat) : Int)) ∧
 (
  Wr w36 ((Addr.mk b1 (15 : Nat) none).add (n2.toNat * (1 : Nat)))) ∧
 LetW (w36.setCell ((Addr.mk b1 (15 : Nat) none).add (n2.toNat * (1 : Nat))) (Value.int IntKind.i64 n34)) fun w37 =>
 ∃ n38 : Int,
 (
  w37.cell? { block := b35, off := (1 : Nat) } = some (Value.int IntKind.i64 n38)) ∧
 ∃ n39 : Int,
 (
  w37.cell? { block := b1, off := (12 : Nat) } = some (Value.int IntKind.i64 n39)) ∧
 Br (n38 != n39)
  (
   Ca Try.prog (57 : Nat) #[Value.pointer (some { block := b1, off := (0 : Nat) }), Value.int IntKind.i64 n2] w37 fun e40 w41 =>
   ∃ n42 : Int,
   ∃ n43 : Int,
   ∃ n44 : Int,
   ∃ n45 : Int,
   ∃ n46 : Int,
   ∃ n47 : Int,
   ∃ n48 : Int,
   ∃ n49 : Int,
   ∃ n50 : Int,
   ∃ s51 : ByteArray,
   ∃ s52 : ByteArray,
   ∃ n53 : Int,
   ∃ n54 : Int,
   ∃ s55 : ByteArray,
   ∃ n56 : Int,
   ∃ n57 : Int,
   ∃ n58 : Int,
   ∃ n59 : Int,
   ∃ n60 : Int,
   ∃ n61 : Int,
   ∃ n62 : Int,
   ∃ s63 : ByteArray,
   ∃ s64 : ByteArray,
   ∃ n65 : Int,
   ∃ n66 : Int,
   ∃ p67 : Option Addr,
   ∃ k68 : Nat,
   ∃ k69 : Nat,
   ∃ n70 : Int,
   ∃ n71 : Int,
   ∃ n72 : Int,
   ∃ n73 : Int,
   (
    e40 = Ending.returned (Value.agg #[Value.int IntKind.i64 n42, Value.int IntKind.i64 n43, Value.int IntKind.i64 n44, Value.int IntKind.i64 n45, Value.int IntKind.i64 n46, Value.int IntKind.i64 n47, Value.int IntKind.i64 n48, Value.int IntKind.i64 n49, Value.int IntKind.i64 n50, Value.string s51, Value.string s52, Value.int IntKind.i64 n53, Value.int IntKind.i64 n54, Value.string s55, Value.int IntKind.i64 n56, Value.int IntKind.i64 n57, Value.int IntKind.i64 n58, Value.int IntKind.i64 n59, Value.int IntKind.i64 n60, Value.int IntKind.i64 n61, Value.int IntKind.i64 n62, Value.string s63, Value.string s64, Value.int IntKind.i64 n65, Value.int IntKind.i64 n66, Value.slice p67 k68 k69, Value.int IntKind.i64 n70, Value.int IntKind.i64 n71, Value.int IntKind.i64 n72, Value.int IntKind.i64 n73])) ∧
   LetA (Obj.cells #[Value.int IntKind.i64 n42, Value.int IntKind.i64 n43, Value.int IntKind.i64 n44, Value.int IntKind.i64 n45, Value.int IntKind.i64 n46, Value.int IntKind.i64 n47, Value.int IntKind.i64 n48, Value.int IntKind.i64 n49, Value.int IntKind.i64 n50, Value.string s51, Value.string s52, Value.int IntKind.i64 n53, Value.int IntKind.i64 n54, Value.string s55, Value.int IntKind.i64 n56, Value.int IntKind.i64 n57, Value.int IntKind.i64 n58, Value.int IntKind.i64 n59, Value.int IntKind.i64 n60, Value.int IntKind.i64 n61, Value.int IntKind.i64 n62, Value.string s63, Value.string s64, Value.int IntKind.i64 n65, Value.int IntKind.i64 n66, Value.slice p67 k68 k69, Value.int IntKind.i64 n70, Value.int IntKind.i64 n71, Value.int IntKind.i64 n72, Value.int IntKind.i64 n73] (70 : Nat)) w41 fun b74 w75 =>
   R (Ending.returned (Value.slice (some { block := b74, off := (0 : Nat) }) (1 : Nat) (1 : Nat))) w75)
  (
   Ca Try.prog (67 : Nat) #[Value.pointer (some { block := b1, off := (0 : Nat) }), Value.int IntKind.i64 n2] w37 fun e76 w77 =>
   ∃ b78 : Bool,
   (
    e76 = Ending.returned (Value.bool b78)) ∧
   Br (b78)
    (
     ∃ n79 : Int,
     (
      w77.cell? { block := b35, off := (26 : Nat) } = some (Value.int IntKind.i64 n79)) ∧
     Br (n79 == (1 : Int))
      (
       (
        (
         (0 : Int) ≤ n2) ∧
        n2 < (↑(6 : Nat) : Int)) ∧
       (
        Wr w77 ((Addr.mk b1 (21 : Nat) none).add (n2.toNat * (1 : Nat)))) ∧
       LetW (w77.setCell ((Addr.mk b1 (21 : Nat) none).add (n2.toNat * (1 : Nat))) (Value.bool true)) fun w80 =>
       R (Ending.returned (Value.slice none (0 : Nat) (0 : Nat))) w80)
      (
       R (Ending.returned (Value.slice none (0 : Nat) (0 : Nat))) w77))
    (
     R (Ending.returned (Value.slice none (0 : Nat) (0 : Nat))) w77))
theorem malive_ok (b1 : Nat) (n2 : Int) (n3 : Int) (n4 : Int) (n5 : Int) (n6 : Int) (n7 : Int) (n8 : Int) (n9 : Int) (n10 : Int) (s11 : ByteArray) (s12 : ByteArray) (n13 : Int) (n14 : Int) (s15 : ByteArray) (n16 : Int) (n17 : Int) (n18 : Int) (n19 : Int) (n20 : Int) (n21 : Int) (n22 : Int) (s23 : ByteArray) (s24 : ByteArray) (n25 : Int) (n26 : Int) (p27 : Option Addr) (k28 : Nat) (k29 : Nat) (n30 : Int) (n31 : Int) (n32 : Int) (n33 : Int) (n34 : Int) (w : World) (R : Ending → World → Prop) (h : malive b1 n2 n3 n4 n5 n6 n7 n8 n9 n10 s11 s12 n13 n14 s15 n16 n17 n18 n19 n20 n21 n22 s23 s24 n25 n26 p27 k28 k29 n30 n31 n32 n33 n34 w R) : Ca Try.prog 58 #[Value.pointer (some { block := b1, off := (0 : Nat) }), Value.int IntKind.i64 n2, Value.agg #[Value.int IntKind.i64 n3, Value.int IntKind.i64 n4, Value.int IntKind.i64 n5, Value.int IntKind.i64 n6, Value.int IntKind.i64 n7, Value.int IntKind.i64 n8, Value.int IntKind.i64 n9, Value.int IntKind.i64 n10, Value.string s11, Value.string s12, Value.int IntKind.i64 n13, Value.int IntKind.i64 n14, Value.string s15, Value.int IntKind.i64 n16, Value.int IntKind.i64 n17, Value.int IntKind.i64 n18, Value.int IntKind.i64 n19, Value.int IntKind.i64 n20, Value.int IntKind.i64 n21, Value.int IntKind.i64 n22, Value.string s23, Value.string s24, Value.int IntKind.i64 n25, Value.int IntKind.i64 n26, Value.slice p27 k28 k29, Value.int IntKind.i64 n30, Value.int IntKind.i64 n31, Value.int IntKind.i64 n32, Value.int IntKind.i64 n33], Value.int IntKind.i64 n34] w R :=
  Ca.of_fvc (c := bodyOf Try.f58) (by kernel_rfl) Try.func58 (by kernel_rfl) [] (Eq.mp (by kernel_rfl) h)

def mconfirm (b1 : Nat) (n2 : Int) (n3 : Int) (n4 : Int) (n5 : Int) (n6 : Int) (n7 : Int) (n8 : Int) (n9 : Int) (n10 : Int) (s11 : ByteArray) (s12 : ByteArray) (n13 : Int) (n14 : Int) (s15 : ByteArray) (n16 : Int) (n17 : Int) (n18 : Int) (n19 : Int) (n20 : Int) (n21 : Int) (n22 : Int) (s23 : ByteArray) (s24 : ByteArray) (n25 : Int) (n26 : Int) (p27 : Option Addr) (k28 : Nat) (k29 : Nat) (n30 : Int) (n31 : Int) (n32 : Int) (n33 : Int) (w : World) (R : Ending → World → Prop) : Prop :=
 LetA (Obj.cells #[Value.int IntKind.i64 n3, Value.int IntKind.i64 n4, Value.int IntKind.i64 n5, Value.int IntKind.i64 n6, Value.int IntKind.i64 n7, Value.int IntKind.i64 n8, Value.int IntKind.i64 n9, Value.int IntKind.i64 n10, Value.string s11, Value.string s12, Value.int IntKind.i64 n13, Value.int IntKind.i64 n14, Value.string s15, Value.int IntKind.i64 n16, Value.int IntKind.i64 n17, Value.int IntKind.i64 n18, Value.int IntKind.i64 n19, Value.int IntKind.i64 n20, Value.int IntKind.i64 n21, Value.int IntKind.i64 n22, Value.string s23, Value.string s24, Value.int IntKind.i64 n25, Value.int IntKind.i64 n26, Value.slice p27 k28 k29, Value.int IntKind.i64 n30, Value.int IntKind.i64 n31, Value.int IntKind.i64 n32, Value.int IntKind.i64 n33] (53 : Nat)) w fun b34 w35 =>
 ∃ n36 : Int,
 (
  w35.cell? { block := b34, off := (1 : Nat) } = some (Value.int IntKind.i64 n36)) ∧
 ∃ n37 : Int,
 (
  w35.cell? { block := b1, off := (12 : Nat) } = some (Value.int IntKind.i64 n37)) ∧
 Br (n36 != n37)
  (
   Ca Try.prog (57 : Nat) #[Value.pointer (some { block := b1, off := (0 : Nat) }), Value.int IntKind.i64 n2] w35 fun e38 w39 =>
   ∃ n40 : Int,
   ∃ n41 : Int,
   ∃ n42 : Int,
   ∃ n43 : Int,
   ∃ n44 : Int,
   ∃ n45 : Int,
   ∃ n46 : Int,
   ∃ n47 : Int,
   ∃ n48 : Int,
   ∃ s49 : ByteArray,
   ∃ s50 : ByteArray,
   ∃ n51 : Int,
   ∃ n52 : Int,
   ∃ s53 : ByteArray,
   ∃ n54 : Int,
   ∃ n55 : Int,
   ∃ n56 : Int,
   ∃ n57 : Int,
   ∃ n58 : Int,
   ∃ n59 : Int,
   ∃ n60 : Int,
   ∃ s61 : ByteArray,
   ∃ s62 : ByteArray,
   ∃ n63 : Int,
   ∃ n64 : Int,
   ∃ p65 : Option Addr,
   ∃ k66 : Nat,
   ∃ k67 : Nat,
   ∃ n68 : Int,
   ∃ n69 : Int,
   ∃ n70 : Int,
   ∃ n71 : Int,
   (
    e38 = Ending.returned (Value.agg #[Value.int IntKind.i64 n40, Value.int IntKind.i64 n41, Value.int IntKind.i64 n42, Value.int IntKind.i64 n43, Value.int IntKind.i64 n44, Value.int IntKind.i64 n45, Value.int IntKind.i64 n46, Value.int IntKind.i64 n47, Value.int IntKind.i64 n48, Value.string s49, Value.string s50, Value.int IntKind.i64 n51, Value.int IntKind.i64 n52, Value.string s53, Value.int IntKind.i64 n54, Value.int IntKind.i64 n55, Value.int IntKind.i64 n56, Value.int IntKind.i64 n57, Value.int IntKind.i64 n58, Value.int IntKind.i64 n59, Value.int IntKind.i64 n60, Value.string s61, Value.string s62, Value.int IntKind.i64 n63, Value.int IntKind.i64 n64, Value.slice p65 k66 k67, Value.int IntKind.i64 n68, Value.int IntKind.i64 n69, Value.int IntKind.i64 n70, Value.int IntKind.i64 n71])) ∧
   LetA (Obj.cells #[Value.int IntKind.i64 n40, Value.int IntKind.i64 n41, Value.int IntKind.i64 n42, Value.int IntKind.i64 n43, Value.int IntKind.i64 n44, Value.int IntKind.i64 n45, Value.int IntKind.i64 n46, Value.int IntKind.i64 n47, Value.int IntKind.i64 n48, Value.string s49, Value.string s50, Value.int IntKind.i64 n51, Value.int IntKind.i64 n52, Value.string s53, Value.int IntKind.i64 n54, Value.int IntKind.i64 n55, Value.int IntKind.i64 n56, Value.int IntKind.i64 n57, Value.int IntKind.i64 n58, Value.int IntKind.i64 n59, Value.int IntKind.i64 n60, Value.string s61, Value.string s62, Value.int IntKind.i64 n63, Value.int IntKind.i64 n64, Value.slice p65 k66 k67, Value.int IntKind.i64 n68, Value.int IntKind.i64 n69, Value.int IntKind.i64 n70, Value.int IntKind.i64 n71] (70 : Nat)) w39 fun b72 w73 =>
   R (Ending.returned (Value.slice (some { block := b72, off := (0 : Nat) }) (1 : Nat) (1 : Nat))) w73)
  (
   ∃ n74 : Int,
   ∃ p75 : Option Addr,
   ∃ k76 : Nat,
   ∃ k77 : Nat,
   ∃ n78 : Int,
   (
    Row w35 { block := b1, off := (12 : Nat) } (0 : Nat) [Value.int IntKind.i64 n74, Value.slice p75 k76 k77, Value.int IntKind.i64 n78]) ∧
   Ca Try.prog (23 : Nat) #[Value.agg #[Value.int IntKind.i64 n74, Value.slice p75 k76 k77, Value.int IntKind.i64 n78]] w35 fun e79 w80 =>
   ∃ n81 : Int,
   (
    e79 = Ending.returned (Value.int IntKind.i64 n81)) ∧
   Br (n2 == n81)
    (
     ∃ n82 : Int,
     (
      w80.cell? { block := b34, off := (1 : Nat) } = some (Value.int IntKind.i64 n82)) ∧
     ∃ n83 : Int,
     (
      w80.cell? { block := b34, off := (26 : Nat) } = some (Value.int IntKind.i64 n83)) ∧
     LetA (Obj.cells #[Value.int IntKind.i64 n2, Value.int IntKind.i64 (10 : Int), Value.int IntKind.i64 n82, Value.int IntKind.i64 (0 : Int), Value.int IntKind.i64 (0 : Int), Value.int IntKind.i64 (0 : Int), Value.int IntKind.i64 (0 : Int), Value.int IntKind.i64 (0 : Int), Value.int IntKind.i64 (0 : Int), Value.string { data := #[] }, Value.string { data := #[] }, Value.int IntKind.i64 (0 : Int), Value.int IntKind.i64 (0 : Int), Value.string { data := #[] }, Value.int IntKind.i64 (0 : Int), Value.int IntKind.i64 (0 : Int), Value.int IntKind.i64 (0 : Int), Value.int IntKind.i64 (0 : Int), Value.int IntKind.i64 (0 : Int), Value.int IntKind.i64 (0 : Int), Value.int IntKind.i64 (0 : Int), Value.string { data := #[] }, Value.string { data := #[] }, Value.int IntKind.i64 (0 : Int), Value.int IntKind.i64 (0 : Int), Value.slice none (0 : Nat) (0 : Nat), Value.int IntKind.i64 (0 : Int), Value.int IntKind.i64 n83, Value.int IntKind.i64 (0 : Int), Value.int IntKind.i64 (0 : Int)] (70 : Nat)) w80 fun b84 w85 =>
     R (Ending.returned (Value.slice (some { block := b84, off := (0 : Nat) }) (1 : Nat) (1 : Nat))) w85)
    (
     R (Ending.returned (Value.slice none (0 : Nat) (0 : Nat))) w80))
theorem mconfirm_ok (b1 : Nat) (n2 : Int) (n3 : Int) (n4 : Int) (n5 : Int) (n6 : Int) (n7 : Int) (n8 : Int) (n9 : Int) (n10 : Int) (s11 : ByteArray) (s12 : ByteArray) (n13 : Int) (n14 : Int) (s15 : ByteArray) (n16 : Int) (n17 : Int) (n18 : Int) (n19 : Int) (n20 : Int) (n21 : Int) (n22 : Int) (s23 : ByteArray) (s24 : ByteArray) (n25 : Int) (n26 : Int) (p27 : Option Addr) (k28 : Nat) (k29 : Nat) (n30 : Int) (n31 : Int) (n32 : Int) (n33 : Int) (w : World) (R : Ending → World → Prop) (h : mconfirm b1 n2 n3 n4 n5 n6 n7 n8 n9 n10 s11 s12 n13 n14 s15 n16 n17 n18 n19 n20 n21 n22 s23 s24 n25 n26 p27 k28 k29 n30 n31 n32 n33 w R) : Ca Try.prog 60 #[Value.pointer (some { block := b1, off := (0 : Nat) }), Value.int IntKind.i64 n2, Value.agg #[Value.int IntKind.i64 n3, Value.int IntKind.i64 n4, Value.int IntKind.i64 n5, Value.int IntKind.i64 n6, Value.int IntKind.i64 n7, Value.int IntKind.i64 n8, Value.int IntKind.i64 n9, Value.int IntKind.i64 n10, Value.string s11, Value.string s12, Value.int IntKind.i64 n13, Value.int IntKind.i64 n14, Value.string s15, Value.int IntKind.i64 n16, Value.int IntKind.i64 n17, Value.int IntKind.i64 n18, Value.int IntKind.i64 n19, Value.int IntKind.i64 n20, Value.int IntKind.i64 n21, Value.int IntKind.i64 n22, Value.string s23, Value.string s24, Value.int IntKind.i64 n25, Value.int IntKind.i64 n26, Value.slice p27 k28 k29, Value.int IntKind.i64 n30, Value.int IntKind.i64 n31, Value.int IntKind.i64 n32, Value.int IntKind.i64 n33]] w R :=
  Ca.of_fvc (c := bodyOf Try.f60) (by kernel_rfl) Try.func60 (by kernel_rfl) [] (Eq.mp (by kernel_rfl) h)

def mleaves (b1 : Nat) (n2 : Int) (w : World) (R : Ending → World → Prop) : Prop :=
 Ca Try.prog (56 : Nat) #[Value.pointer (some { block := b1, off := (0 : Nat) })] w fun e3 w4 =>
 ∃ b5 : Bool,
 (
  e3 = Ending.returned (Value.bool b5)) ∧
 Br (b5)
  (
   R (Ending.returned (Value.int IntKind.i64 (1 : Int))) w4)
  (
   Ca Try.prog (67 : Nat) #[Value.pointer (some { block := b1, off := (0 : Nat) }), Value.int IntKind.i64 n2] w4 fun e6 w7 =>
   ∃ b8 : Bool,
   (
    e6 = Ending.returned (Value.bool b8)) ∧
   Br (!b8)
    (
     R (Ending.returned (Value.int IntKind.i64 (4 : Int))) w7)
    (
     Ca Try.prog (61 : Nat) #[Value.pointer (some { block := b1, off := (0 : Nat) }), Value.int IntKind.i64 n2] w7 fun e9 w10 =>
     ∃ b11 : Bool,
     (
      e9 = Ending.returned (Value.bool b11)) ∧
     Br (!b11)
      (
       R (Ending.returned (Value.int IntKind.i64 (72 : Int))) w10)
      (
       R (Ending.returned (Value.int IntKind.i64 (0 : Int))) w10)))
theorem mleaves_ok (b1 : Nat) (n2 : Int) (w : World) (R : Ending → World → Prop) (h : mleaves b1 n2 w R) : Ca Try.prog 66 #[Value.pointer (some { block := b1, off := (0 : Nat) }), Value.int IntKind.i64 n2] w R :=
  Ca.of_fvc (c := bodyOf Try.f66) (by kernel_rfl) Try.func66 (by kernel_rfl) [] (Eq.mp (by kernel_rfl) h)

def mtake (b1 : Nat) (n2 : Int) (n3 : Int) (n4 : Int) (n5 : Int) (n6 : Int) (n7 : Int) (n8 : Int) (n9 : Int) (n10 : Int) (s11 : ByteArray) (s12 : ByteArray) (n13 : Int) (n14 : Int) (s15 : ByteArray) (n16 : Int) (n17 : Int) (n18 : Int) (n19 : Int) (n20 : Int) (n21 : Int) (n22 : Int) (s23 : ByteArray) (s24 : ByteArray) (n25 : Int) (n26 : Int) (p27 : Option Addr) (k28 : Nat) (k29 : Nat) (n30 : Int) (n31 : Int) (n32 : Int) (n33 : Int) (n34 : Int) (w : World) (R : Ending → World → Prop) : Prop :=
 LetA (Obj.cells #[Value.int IntKind.i64 n3, Value.int IntKind.i64 n4, Value.int IntKind.i64 n5, Value.int IntKind.i64 n6, Value.int IntKind.i64 n7, Value.int IntKind.i64 n8, Value.int IntKind.i64 n9, Value.int IntKind.i64 n10, Value.string s11, Value.string s12, Value.int IntKind.i64 n13, Value.int IntKind.i64 n14, Value.string s15, Value.int IntKind.i64 n16, Value.int IntKind.i64 n17, Value.int IntKind.i64 n18, Value.int IntKind.i64 n19, Value.int IntKind.i64 n20, Value.int IntKind.i64 n21, Value.int IntKind.i64 n22, Value.string s23, Value.string s24, Value.int IntKind.i64 n25, Value.int IntKind.i64 n26, Value.slice p27 k28 k29, Value.int IntKind.i64 n30, Value.int IntKind.i64 n31, Value.int IntKind.i64 n32, Value.int IntKind.i64 n33] (53 : Nat)) w fun b35 w36 =>
 Ca Try.prog (56 : Nat) #[Value.pointer (some { block := b1, off := (0 : Nat) })] w36 fun e37 w38 =>
 ∃ b39 : Bool,
 (
  e37 = Ending.returned (Value.bool b39)) ∧
 Br (b39)
  (
   R (Ending.returned (Value.slice none (0 : Nat) (0 : Nat))) w38)
  (
   ∃ n40 : Int,
   (
    w38.cell? { block := b35, off := (0 : Nat) } = some (Value.int IntKind.i64 n40)) ∧
   Br (n40 == (7 : Int))
    (
     Ca Try.prog (57 : Nat) #[Value.pointer (some { block := b1, off := (0 : Nat) }), Value.int IntKind.i64 n2] w38 fun e41 w42 =>
     ∃ n43 : Int,
     ∃ n44 : Int,
     ∃ n45 : Int,
     ∃ n46 : Int,
     ∃ n47 : Int,
     ∃ n48 : Int,
     ∃ n49 : Int,
     ∃ n50 : Int,
     ∃ n51 : Int,
     ∃ s52 : ByteArray,
     ∃ s53 : ByteArray,
     ∃ n54 : Int,
     ∃ n55 : Int,
     ∃ s56 : ByteArray,
     ∃ n57 : Int,
     ∃ n58 : Int,
     ∃ n59 : Int,
     ∃ n60 : Int,
     ∃ n61 : Int,
     ∃ n62 : Int,
     ∃ n63 : Int,
     ∃ s64 : ByteArray,
     ∃ s65 : ByteArray,
     ∃ n66 : Int,
     ∃ n67 : Int,
     ∃ p68 : Option Addr,
     ∃ k69 : Nat,
     ∃ k70 : Nat,
     ∃ n71 : Int,
     ∃ n72 : Int,
     ∃ n73 : Int,
     ∃ n74 : Int,
     (
      e41 = Ending.returned (Value.agg #[Value.int IntKind.i64 n43, Value.int IntKind.i64 n44, Value.int IntKind.i64 n45, Value.int IntKind.i64 n46, Value.int IntKind.i64 n47, Value.int IntKind.i64 n48, Value.int IntKind.i64 n49, Value.int IntKind.i64 n50, Value.int IntKind.i64 n51, Value.string s52, Value.string s53, Value.int IntKind.i64 n54, Value.int IntKind.i64 n55, Value.string s56, Value.int IntKind.i64 n57, Value.int IntKind.i64 n58, Value.int IntKind.i64 n59, Value.int IntKind.i64 n60, Value.int IntKind.i64 n61, Value.int IntKind.i64 n62, Value.int IntKind.i64 n63, Value.string s64, Value.string s65, Value.int IntKind.i64 n66, Value.int IntKind.i64 n67, Value.slice p68 k69 k70, Value.int IntKind.i64 n71, Value.int IntKind.i64 n72, Value.int IntKind.i64 n73, Value.int IntKind.i64 n74])) ∧
     LetA (Obj.cells #[Value.int IntKind.i64 n43, Value.int IntKind.i64 n44, Value.int IntKind.i64 n45, Value.int IntKind.i64 n46, Value.int IntKind.i64 n47, Value.int IntKind.i64 n48, Value.int IntKind.i64 n49, Value.int IntKind.i64 n50, Value.int IntKind.i64 n51, Value.string s52, Value.string s53, Value.int IntKind.i64 n54, Value.int IntKind.i64 n55, Value.string s56, Value.int IntKind.i64 n57, Value.int IntKind.i64 n58, Value.int IntKind.i64 n59, Value.int IntKind.i64 n60, Value.int IntKind.i64 n61, Value.int IntKind.i64 n62, Value.int IntKind.i64 n63, Value.string s64, Value.string s65, Value.int IntKind.i64 n66, Value.int IntKind.i64 n67, Value.slice p68 k69 k70, Value.int IntKind.i64 n71, Value.int IntKind.i64 n72, Value.int IntKind.i64 n73, Value.int IntKind.i64 n74] (70 : Nat)) w42 fun b75 w76 =>
     R (Ending.returned (Value.slice (some { block := b75, off := (0 : Nat) }) (1 : Nat) (1 : Nat))) w76)
    (
     Br (decide (n2 < (0 : Int)))
      (
       R (Ending.returned (Value.slice none (0 : Nat) (0 : Nat))) w38)
      (
       ∃ n77 : Int,
       (
        w38.cell? { block := b1, off := (0 : Nat) } = some (Value.int IntKind.i64 n77)) ∧
       Br (decide (n2 ≥ n77))
        (
         R (Ending.returned (Value.slice none (0 : Nat) (0 : Nat))) w38)
        (
         ∃ n78 : Int,
         (
          w38.cell? { block := b35, off := (0 : Nat) } = some (Value.int IntKind.i64 n78)) ∧
         Br (n78 == (11 : Int))
          (
           ∃ n79 : Int,
           ∃ n80 : Int,
           ∃ n81 : Int,
           ∃ n82 : Int,
           ∃ n83 : Int,
           ∃ n84 : Int,
           ∃ n85 : Int,
           ∃ n86 : Int,
           ∃ s87 : ByteArray,
           ∃ s88 : ByteArray,
           ∃ n89 : Int,
           ∃ n90 : Int,
           ∃ s91 : ByteArray,
           ∃ n92 : Int,
           ∃ n93 : Int,
           ∃ n94 : Int,
           ∃ n95 : Int,
           ∃ n96 : Int,
           ∃ n97 : Int,
           ∃ n98 : Int,
           ∃ s99 : ByteArray,
           ∃ s100 : ByteArray,
           ∃ n101 : Int,
           ∃ n102 : Int,
           ∃ p103 : Option Addr,
           ∃ k104 : Nat,
           ∃ k105 : Nat,
           ∃ n106 : Int,
           ∃ n107 : Int,
           ∃ n108 : Int,
           ∃ n109 : Int,
           (
            Row w38 { block := b35, off := (0 : Nat) } (0 : Nat) [Value.int IntKind.i64 n79, Value.int IntKind.i64 n80, Value.int IntKind.i64 n81, Value.int IntKind.i64 n82, Value.int IntKind.i64 n83, Value.int IntKind.i64 n84, Value.int IntKind.i64 n85, Value.int IntKind.i64 n86, Value.string s87, Value.string s88, Value.int IntKind.i64 n89, Value.int IntKind.i64 n90, Value.string s91, Value.int IntKind.i64 n92, Value.int IntKind.i64 n93, Value.int IntKind.i64 n94, Value.int IntKind.i64 n95, Value.int IntKind.i64 n96, Value.int IntKind.i64 n97, Value.int IntKind.i64 n98, Value.string s99, Value.string s100, Value.int IntKind.i64 n101, Value.int IntKind.i64 n102, Value.slice p103 k104 k105, Value.int IntKind.i64 n106, Value.int IntKind.i64 n107, Value.int IntKind.i64 n108, Value.int IntKind.i64 n109]) ∧
           Ca Try.prog (59 : Nat) #[Value.int IntKind.i64 n34] w38 fun e110 w111 =>
           ∃ n112 : Int,
           (
            e110 = Ending.returned (Value.int IntKind.i64 n112)) ∧
           (
            Row w111 { block := b35, off := (0 : Nat) } (0 : Nat) [Value.int IntKind.i64 n79, Value.int IntKind.i64 n80, Value.int IntKind.i64 n81, Value.int IntKind.i64 n82, Value.int IntKind.i64 n83, Value.int IntKind.i64 n84, Value.int IntKind.i64 n85, Value.int IntKind.i64 n86, Value.string s87, Value.string s88, Value.int IntKind.i64 n89, Value.int IntKind.i64 n90, Value.string s91, Value.int IntKind.i64 n92, Value.int IntKind.i64 n93, Value.int IntKind.i64 n94, Value.int IntKind.i64 n95, Value.int IntKind.i64 n96, Value.int IntKind.i64 n97, Value.int IntKind.i64 n98, Value.string s99, Value.string s100, Value.int IntKind.i64 n101, Value.int IntKind.i64 n102, Value.slice p103 k104 k105, Value.int IntKind.i64 n106, Value.int IntKind.i64 n107, Value.int IntKind.i64 n108, Value.int IntKind.i64 n109]) ∧
           Ca Try.prog (58 : Nat) #[Value.pointer (some { block := b1, off := (0 : Nat) }), Value.int IntKind.i64 n2, Value.agg #[Value.int IntKind.i64 n79, Value.int IntKind.i64 n80, Value.int IntKind.i64 n81, Value.int IntKind.i64 n82, Value.int IntKind.i64 n83, Value.int IntKind.i64 n84, Value.int IntKind.i64 n85, Value.int IntKind.i64 n86, Value.string s87, Value.string s88, Value.int IntKind.i64 n89, Value.int IntKind.i64 n90, Value.string s91, Value.int IntKind.i64 n92, Value.int IntKind.i64 n93, Value.int IntKind.i64 n94, Value.int IntKind.i64 n95, Value.int IntKind.i64 n96, Value.int IntKind.i64 n97, Value.int IntKind.i64 n98, Value.string s99, Value.string s100, Value.int IntKind.i64 n101, Value.int IntKind.i64 n102, Value.slice p103 k104 k105, Value.int IntKind.i64 n106, Value.int IntKind.i64 n107, Value.int IntKind.i64 n108, Value.int IntKind.i64 n109], Value.int IntKind.i64 n112] w111 fun e113 w114 =>
           ∃ p115 : Option Addr,
           ∃ k116 : Nat,
           ∃ k117 : Nat,
           (
            e113 = Ending.returned (Value.slice p115 k116 k117)) ∧
           R (Ending.returned (Value.slice p115 k116 k117)) w114)
          (
           Br (n78 == (9 : Int))
            (
             ∃ n118 : Int,
             ∃ n119 : Int,
             ∃ n120 : Int,
             ∃ n121 : Int,
             ∃ n122 : Int,
             ∃ n123 : Int,
             ∃ n124 : Int,
             ∃ n125 : Int,
             ∃ s126 : ByteArray,
             ∃ s127 : ByteArray,
             ∃ n128 : Int,
             ∃ n129 : Int,
             ∃ s130 : ByteArray,
             ∃ n131 : Int,
             ∃ n132 : Int,
             ∃ n133 : Int,
             ∃ n134 : Int,
             ∃ n135 : Int,
             ∃ n136 : Int,
             ∃ n137 : Int,
             ∃ s138 : ByteArray,
             ∃ s139 : ByteArray,
             ∃ n140 : Int,
             ∃ n141 : Int,
             ∃ p142 : Option Addr,
             ∃ k143 : Nat,
             ∃ k144 : Nat,
             ∃ n145 : Int,
             ∃ n146 : Int,
             ∃ n147 : Int,
             ∃ n148 : Int,
             (
              Row w38 { block := b35, off := (0 : Nat) } (0 : Nat) [Value.int IntKind.i64 n118, Value.int IntKind.i64 n119, Value.int IntKind.i64 n120, Value.int IntKind.i64 n121, Value.int IntKind.i64 n122, Value.int IntKind.i64 n123, Value.int IntKind.i64 n124, Value.int IntKind.i64 n125, Value.string s126, Value.string s127, Value.int IntKind.i64 n128, Value.int IntKind.i64 n129, Value.string s130, Value.int IntKind.i64 n131, Value.int IntKind.i64 n132, Value.int IntKind.i64 n133, Value.int IntKind.i64 n134, Value.int IntKind.i64 n135, Value.int IntKind.i64 n136, Value.int IntKind.i64 n137, Value.string s138, Value.string s139, Value.int IntKind.i64 n140, Value.int IntKind.i64 n141, Value.slice p142 k143 k144, Value.int IntKind.i64 n145, Value.int IntKind.i64 n146, Value.int IntKind.i64 n147, Value.int IntKind.i64 n148]) ∧
             Ca Try.prog (60 : Nat) #[Value.pointer (some { block := b1, off := (0 : Nat) }), Value.int IntKind.i64 n2, Value.agg #[Value.int IntKind.i64 n118, Value.int IntKind.i64 n119, Value.int IntKind.i64 n120, Value.int IntKind.i64 n121, Value.int IntKind.i64 n122, Value.int IntKind.i64 n123, Value.int IntKind.i64 n124, Value.int IntKind.i64 n125, Value.string s126, Value.string s127, Value.int IntKind.i64 n128, Value.int IntKind.i64 n129, Value.string s130, Value.int IntKind.i64 n131, Value.int IntKind.i64 n132, Value.int IntKind.i64 n133, Value.int IntKind.i64 n134, Value.int IntKind.i64 n135, Value.int IntKind.i64 n136, Value.int IntKind.i64 n137, Value.string s138, Value.string s139, Value.int IntKind.i64 n140, Value.int IntKind.i64 n141, Value.slice p142 k143 k144, Value.int IntKind.i64 n145, Value.int IntKind.i64 n146, Value.int IntKind.i64 n147, Value.int IntKind.i64 n148]] w38 fun e149 w150 =>
             ∃ p151 : Option Addr,
             ∃ k152 : Nat,
             ∃ k153 : Nat,
             (
              e149 = Ending.returned (Value.slice p151 k152 k153)) ∧
             R (Ending.returned (Value.slice p151 k152 k153)) w150)
            (
             Br (n78 == (12 : Int))
              (
               ∃ n154 : Int,
               (
                w38.cell? { block := b35, off := (1 : Nat) } = some (Value.int IntKind.i64 n154)) ∧
               ∃ n155 : Int,
               (
                w38.cell? { block := b1, off := (12 : Nat) } = some (Value.int IntKind.i64 n155)) ∧
               Br (n154 == n155)
                (
                 ∃ n156 : Int,
                 (
                  w38.cell? { block := b1, off := (14 : Nat) } = some (Value.int IntKind.i64 n156)) ∧
                 Br (n156 == n2)
                  (
                   Ca Try.prog (61 : Nat) #[Value.pointer (some { block := b1, off := (0 : Nat) }), Value.int IntKind.i64 n2] w38 fun e157 w158 =>
                   ∃ b159 : Bool,
                   (
                    e157 = Ending.returned (Value.bool b159)) ∧
                   Br (b159)
                    (
                     Ca Try.prog (62 : Nat) #[Value.pointer (some { block := b1, off := (0 : Nat) }), Value.int IntKind.i64 n2] w158 fun e160 w161 =>
                     ∃ b162 : Bool,
                     (
                      e160 = Ending.returned (Value.bool b162)) ∧
                     Br (b162)
                      (
                       Ca Try.prog (63 : Nat) #[Value.pointer (some { block := b1, off := (0 : Nat) })] w161 fun e163 w164 =>
                       ∃ p165 : Option Addr,
                       ∃ k166 : Nat,
                       ∃ k167 : Nat,
                       (
                        e163 = Ending.returned (Value.slice p165 k166 k167)) ∧
                       R (Ending.returned (Value.slice p165 k166 k167)) w164)
                      (
                       R (Ending.returned (Value.slice none (0 : Nat) (0 : Nat))) w161))
                    (
                     R (Ending.returned (Value.slice none (0 : Nat) (0 : Nat))) w158))
                  (
                   R (Ending.returned (Value.slice none (0 : Nat) (0 : Nat))) w38))
                (
                 R (Ending.returned (Value.slice none (0 : Nat) (0 : Nat))) w38))
              (
               R (Ending.returned (Value.slice none (0 : Nat) (0 : Nat))) w38)))))))
theorem mtake_ok (b1 : Nat) (n2 : Int) (n3 : Int) (n4 : Int) (n5 : Int) (n6 : Int) (n7 : Int) (n8 : Int) (n9 : Int) (n10 : Int) (s11 : ByteArray) (s12 : ByteArray) (n13 : Int) (n14 : Int) (s15 : ByteArray) (n16 : Int) (n17 : Int) (n18 : Int) (n19 : Int) (n20 : Int) (n21 : Int) (n22 : Int) (s23 : ByteArray) (s24 : ByteArray) (n25 : Int) (n26 : Int) (p27 : Option Addr) (k28 : Nat) (k29 : Nat) (n30 : Int) (n31 : Int) (n32 : Int) (n33 : Int) (n34 : Int) (w : World) (R : Ending → World → Prop) (h : mtake b1 n2 n3 n4 n5 n6 n7 n8 n9 n10 s11 s12 n13 n14 s15 n16 n17 n18 n19 n20 n21 n22 s23 s24 n25 n26 p27 k28 k29 n30 n31 n32 n33 n34 w R) : Ca Try.prog 27 #[Value.pointer (some { block := b1, off := (0 : Nat) }), Value.int IntKind.i64 n2, Value.agg #[Value.int IntKind.i64 n3, Value.int IntKind.i64 n4, Value.int IntKind.i64 n5, Value.int IntKind.i64 n6, Value.int IntKind.i64 n7, Value.int IntKind.i64 n8, Value.int IntKind.i64 n9, Value.int IntKind.i64 n10, Value.string s11, Value.string s12, Value.int IntKind.i64 n13, Value.int IntKind.i64 n14, Value.string s15, Value.int IntKind.i64 n16, Value.int IntKind.i64 n17, Value.int IntKind.i64 n18, Value.int IntKind.i64 n19, Value.int IntKind.i64 n20, Value.int IntKind.i64 n21, Value.int IntKind.i64 n22, Value.string s23, Value.string s24, Value.int IntKind.i64 n25, Value.int IntKind.i64 n26, Value.slice p27 k28 k29, Value.int IntKind.i64 n30, Value.int IntKind.i64 n31, Value.int IntKind.i64 n32, Value.int IntKind.i64 n33], Value.int IntKind.i64 n34] w R :=
  Ca.of_fvc (c := bodyOf Try.f27) (by kernel_rfl) Try.func27 (by kernel_rfl) [] (Eq.mp (by kernel_rfl) h)

def mtick (b1 : Nat) (n2 : Int) (w : World) (R : Ending → World → Prop) : Prop :=
 Ca Try.prog (56 : Nat) #[Value.pointer (some { block := b1, off := (0 : Nat) })] w fun e3 w4 =>
 ∃ b5 : Bool,
 (
  e3 = Ending.returned (Value.bool b5)) ∧
 Br (b5)
  (
   R (Ending.returned (Value.slice none (0 : Nat) (0 : Nat))) w4)
  (
   ∃ n6 : Int,
   (
    w4.cell? { block := b1, off := (12 : Nat) } = some (Value.int IntKind.i64 n6)) ∧
   ∃ n7 : Int,
   ∃ p8 : Option Addr,
   ∃ k9 : Nat,
   ∃ k10 : Nat,
   ∃ n11 : Int,
   (
    Row w4 { block := b1, off := (12 : Nat) } (0 : Nat) [Value.int IntKind.i64 n7, Value.slice p8 k9 k10, Value.int IntKind.i64 n11]) ∧
   Ca Try.prog (64 : Nat) #[Value.agg #[Value.int IntKind.i64 n7, Value.slice p8 k9 k10, Value.int IntKind.i64 n11]] w4 fun e12 w13 =>
   ∃ n14 : Int,
   ∃ p15 : Option Addr,
   ∃ k16 : Nat,
   ∃ k17 : Nat,
   ∃ n18 : Int,
   (
    e12 = Ending.returned (Value.agg #[Value.int IntKind.i64 n14, Value.slice p15 k16 k17, Value.int IntKind.i64 n18])) ∧
   ∃ I19 : Nat → List Value → World → Prop,
   (
    ∃ k20 : Nat,
    I19 k20 [Value.int IntKind.i64 (0 : Int)] w13) ∧
   ∀ n21 : Int,
   ∀ k22 : Nat,
   ∀ w23 : World,
   (
    I19 k22 [Value.int IntKind.i64 n21] w23) →
   Br (decide (n21 < (↑k16 : Int)))
    (
     NilOk p15 fun a24 =>
     (
      (
       (0 : Int) ≤ n21) ∧
      n21 < (↑k16 : Int)) ∧
     ∃ n25 : Int,
     ∃ n26 : Int,
     (
      Row w23 (a24.add (n21.toNat * (2 : Nat))) (0 : Nat) [Value.int IntKind.i64 n25, Value.int IntKind.i64 n26]) ∧
     LetA (Obj.cells #[Value.int IntKind.i64 (0 : Int), Value.int IntKind.i64 (0 : Int)] (64 : Nat)) w23 fun b27 w28 =>
     (
      WrRow w28 { block := b27, off := (0 : Nat) } (0 : Nat) [Value.int IntKind.i64 n25, Value.int IntKind.i64 n26]) ∧
     LetW (setRow w28 { block := b27, off := (0 : Nat) } (0 : Nat) [Value.int IntKind.i64 n25, Value.int IntKind.i64 n26]) fun w29 =>
     ∃ n30 : Int,
     (
      w29.cell? { block := b27, off := (0 : Nat) } = some (Value.int IntKind.i64 n30)) ∧
     (
      (
       (0 : Int) ≤ n30) ∧
      n30 < (↑(6 : Nat) : Int)) ∧
     ∃ n31 : Int,
     (
      w29.cell? ((Addr.mk b1 (15 : Nat) none).add (n30.toNat * (1 : Nat))) = some (Value.int IntKind.i64 n31)) ∧
     ∃ n32 : Int,
     (
      w29.cell? { block := b1, off := (8 : Nat) } = some (Value.int IntKind.i64 n32)) ∧
     Ca Try.prog (59 : Nat) #[Value.int IntKind.i64 n2] w29 fun e33 w34 =>
     ∃ n35 : Int,
     (
      e33 = Ending.returned (Value.int IntKind.i64 n35)) ∧
     (
      w34.cell? { block := b1, off := (8 : Nat) } = some (Value.int IntKind.i64 n32)) ∧
     (
      w34.cell? ((Addr.mk b1 (15 : Nat) none).add (n30.toNat * (1 : Nat))) = some (Value.int IntKind.i64 n31)) ∧
     (
      w34.cell? { block := b27, off := (0 : Nat) } = some (Value.int IntKind.i64 n30)) ∧
     LetI (IntKind.i64.wrap (n35 - n31)) fun n36 =>
     Br (decide (n36 > n32))
      (
       ∃ n37 : Int,
       (
        w34.cell? { block := b27, off := (0 : Nat) } = some (Value.int IntKind.i64 n37)) ∧
       Ca Try.prog (61 : Nat) #[Value.pointer (some { block := b1, off := (0 : Nat) }), Value.int IntKind.i64 n37] w34 fun e38 w39 =>
       ∃ b40 : Bool,
       (
        e38 = Ending.returned (Value.bool b40)) ∧
       Br (b40)
        (
         ∃ n41 : Int,
         (
          w39.cell? { block := b27, off := (0 : Nat) } = some (Value.int IntKind.i64 n41)) ∧
         Ca Try.prog (62 : Nat) #[Value.pointer (some { block := b1, off := (0 : Nat) }), Value.int IntKind.i64 n41] w39 fun e42 w43 =>
         ∃ b44 : Bool,
         (
          e42 = Ending.returned (Value.bool b44)) ∧
         LetI (IntKind.i64.wrap (n21 + (1 : Int))) fun n45 =>
         ∃ k46 : Nat,
         (
          k46 < k22) ∧
         I19 k46 [Value.int IntKind.i64 n45] w43)
        (
         LetI (IntKind.i64.wrap (n21 + (1 : Int))) fun n47 =>
         ∃ k48 : Nat,
         (
          k48 < k22) ∧
         I19 k48 [Value.int IntKind.i64 n47] w39))
      (
       LetI (IntKind.i64.wrap (n21 + (1 : Int))) fun n49 =>
       ∃ k50 : Nat,
       (
        k50 < k22) ∧
       I19 k50 [Value.int IntKind.i64 n49] w34))
    (
     ∃ n51 : Int,
     (
      w23.cell? { block := b1, off := (12 : Nat) } = some (Value.int IntKind.i64 n51)) ∧
     Br (n51 == n6)
      (
       R (Ending.returned (Value.slice none (0 : Nat) (0 : Nat))) w23)
      (
       Ca Try.prog (63 : Nat) #[Value.pointer (some { block := b1, off := (0 : Nat) })] w23 fun e52 w53 =>
       ∃ p54 : Option Addr,
       ∃ k55 : Nat,
       ∃ k56 : Nat,
       (
        e52 = Ending.returned (Value.slice p54 k55 k56)) ∧
       R (Ending.returned (Value.slice p54 k55 k56)) w53)))
theorem mtick_ok (b1 : Nat) (n2 : Int) (w : World) (R : Ending → World → Prop) (h : mtick b1 n2 w R) : Ca Try.prog 31 #[Value.pointer (some { block := b1, off := (0 : Nat) }), Value.int IntKind.i64 n2] w R :=
  Ca.of_fvc (c := bodyOf Try.f31) (by kernel_rfl) Try.func31 (by kernel_rfl) [] (Eq.mp (by kernel_rfl) h)

def msuspect (b1 : Nat) (n2 : Int) (w : World) (R : Ending → World → Prop) : Prop :=
 Ca Try.prog (66 : Nat) #[Value.pointer (some { block := b1, off := (0 : Nat) }), Value.int IntKind.i64 n2] w fun e3 w4 =>
 ∃ n5 : Int,
 (
  e3 = Ending.returned (Value.int IntKind.i64 n5)) ∧
 Br (n5 != (0 : Int))
  (
   R (Ending.returned (Value.tuple #[Value.slice none (0 : Nat) (0 : Nat), Value.int IntKind.i64 n5])) w4)
  (
   Ca Try.prog (62 : Nat) #[Value.pointer (some { block := b1, off := (0 : Nat) }), Value.int IntKind.i64 n2] w4 fun e6 w7 =>
   ∃ b8 : Bool,
   (
    e6 = Ending.returned (Value.bool b8)) ∧
   Ca Try.prog (63 : Nat) #[Value.pointer (some { block := b1, off := (0 : Nat) })] w7 fun e9 w10 =>
   ∃ p11 : Option Addr,
   ∃ k12 : Nat,
   ∃ k13 : Nat,
   (
    e9 = Ending.returned (Value.slice p11 k12 k13)) ∧
   R (Ending.returned (Value.tuple #[Value.slice p11 k12 k13, Value.int IntKind.i64 (0 : Int)])) w10)
theorem msuspect_ok (b1 : Nat) (n2 : Int) (w : World) (R : Ending → World → Prop) (h : msuspect b1 n2 w R) : Ca Try.prog 30 #[Value.pointer (some { block := b1, off := (0 : Nat) }), Value.int IntKind.i64 n2] w R :=
  Ca.of_fvc (c := bodyOf Try.f30) (by kernel_rfl) Try.func30 (by kernel_rfl) [] (Eq.mp (by kernel_rfl) h)

def mjoin (b1 : Nat) (n2 : Int) (n3 : Int) (w : World) (R : Ending → World → Prop) : Prop :=
 Ca Try.prog (56 : Nat) #[Value.pointer (some { block := b1, off := (0 : Nat) })] w fun e4 w5 =>
 ∃ b6 : Bool,
 (
  e4 = Ending.returned (Value.bool b6)) ∧
 Br (b6)
  (
   R (Ending.returned (Value.tuple #[Value.slice none (0 : Nat) (0 : Nat), Value.int IntKind.i64 (1 : Int)])) w5)
  (
   Br (decide (n2 < (0 : Int)))
    (
     R (Ending.returned (Value.tuple #[Value.slice none (0 : Nat) (0 : Nat), Value.int IntKind.i64 (2 : Int)])) w5)
    (
     ∃ n7 : Int,
     (
      w5.cell? { block := b1, off := (0 : Nat) } = some (Value.int IntKind.i64 n7)) ∧
     Br (decide (n2 ≥ n7))
      (
       R (Ending.returned (Value.tuple #[Value.slice none (0 : Nat) (0 : Nat), Value.int IntKind.i64 (2 : Int)])) w5)
      (
       ∃ n8 : Int,
       ∃ p9 : Option Addr,
       ∃ k10 : Nat,
       ∃ k11 : Nat,
       ∃ n12 : Int,
       (
        Row w5 { block := b1, off := (12 : Nat) } (0 : Nat) [Value.int IntKind.i64 n8, Value.slice p9 k10 k11, Value.int IntKind.i64 n12]) ∧
       Ca Try.prog (65 : Nat) #[Value.agg #[Value.int IntKind.i64 n8, Value.slice p9 k10 k11, Value.int IntKind.i64 n12], Value.int IntKind.i64 n2] w5 fun e13 w14 =>
       ∃ n15 : Int,
       ∃ p16 : Option Addr,
       ∃ k17 : Nat,
       ∃ k18 : Nat,
       ∃ n19 : Int,
       ∃ n20 : Int,
       (
        e13 = Ending.returned (Value.tuple #[Value.agg #[Value.int IntKind.i64 n15, Value.slice p16 k17 k18, Value.int IntKind.i64 n19], Value.int IntKind.i64 n20])) ∧
       LetA (Obj.cells #[Value.int IntKind.i64 (0 : Int), Value.slice none (0 : Nat) (0 : Nat), Value.int IntKind.i64 (0 : Int)] (32 : Nat)) w14 fun b21 w22 =>
       (
        WrRow w22 { block := b21, off := (0 : Nat) } (0 : Nat) [Value.int IntKind.i64 n15, Value.slice p16 k17 k18, Value.int IntKind.i64 n19]) ∧
       LetW (setRow w22 { block := b21, off := (0 : Nat) } (0 : Nat) [Value.int IntKind.i64 n15, Value.slice p16 k17 k18, Value.int IntKind.i64 n19]) fun w23 =>
       Br (n20 != (0 : Int))
        (
         R (Ending.returned (Value.tuple #[Value.slice none (0 : Nat) (0 : Nat), Value.int IntKind.i64 n20])) w23)
        (
         ∃ n24 : Int,
         ∃ p25 : Option Addr,
         ∃ k26 : Nat,
         ∃ k27 : Nat,
         ∃ n28 : Int,
         (
          Row w23 { block := b21, off := (0 : Nat) } (0 : Nat) [Value.int IntKind.i64 n24, Value.slice p25 k26 k27, Value.int IntKind.i64 n28]) ∧
         Ca Try.prog (59 : Nat) #[Value.int IntKind.i64 n3] w23 fun e29 w30 =>
         ∃ n31 : Int,
         (
          e29 = Ending.returned (Value.int IntKind.i64 n31)) ∧
         (
          Row w30 { block := b21, off := (0 : Nat) } (0 : Nat) [Value.int IntKind.i64 n24, Value.slice p25 k26 k27, Value.int IntKind.i64 n28]) ∧
         (
          WrRow w30 { block := b1, off := (12 : Nat) } (0 : Nat) [Value.int IntKind.i64 n24, Value.slice p25 k26 k27, Value.int IntKind.i64 n28]) ∧
         LetW (setRow w30 { block := b1, off := (12 : Nat) } (0 : Nat) [Value.int IntKind.i64 n24, Value.slice p25 k26 k27, Value.int IntKind.i64 n28]) fun w32 =>
         (
          (
           (0 : Int) ≤ n2) ∧
          n2 < (↑(6 : Nat) : Int)) ∧
         (
          Wr w32 ((Addr.mk b1 (21 : Nat) none).add (n2.toNat * (1 : Nat)))) ∧
         LetW (w32.setCell ((Addr.mk b1 (21 : Nat) none).add (n2.toNat * (1 : Nat))) (Value.bool false)) fun w33 =>
         (
          (
           (0 : Int) ≤ n2) ∧
          n2 < (↑(6 : Nat) : Int)) ∧
         (
          Wr w33 ((Addr.mk b1 (15 : Nat) none).add (n2.toNat * (1 : Nat)))) ∧
         LetW (w33.setCell ((Addr.mk b1 (15 : Nat) none).add (n2.toNat * (1 : Nat))) (Value.int IntKind.i64 n31)) fun w34 =>
         Ca Try.prog (63 : Nat) #[Value.pointer (some { block := b1, off := (0 : Nat) })] w34 fun e35 w36 =>
         ∃ p37 : Option Addr,
         ∃ k38 : Nat,
         ∃ k39 : Nat,
         (
          e35 = Ending.returned (Value.slice p37 k38 k39)) ∧
         R (Ending.returned (Value.tuple #[Value.slice p37 k38 k39, Value.int IntKind.i64 (0 : Int)])) w36))))
theorem mjoin_ok (b1 : Nat) (n2 : Int) (n3 : Int) (w : World) (R : Ending → World → Prop) (h : mjoin b1 n2 n3 w R) : Ca Try.prog 29 #[Value.pointer (some { block := b1, off := (0 : Nat) }), Value.int IntKind.i64 n2, Value.int IntKind.i64 n3] w R :=
  Ca.of_fvc (c := bodyOf Try.f29) (by kernel_rfl) Try.func29 (by kernel_rfl) [] (Eq.mp (by kernel_rfl) h)

def mdrain (b1 : Nat) (n2 : Int) (w : World) (R : Ending → World → Prop) : Prop :=
 Ca Try.prog (66 : Nat) #[Value.pointer (some { block := b1, off := (0 : Nat) }), Value.int IntKind.i64 n2] w fun e3 w4 =>
 ∃ n5 : Int,
 (
  e3 = Ending.returned (Value.int IntKind.i64 n5)) ∧
 Br (n5 != (0 : Int))
  (
   R (Ending.returned (Value.tuple #[Value.slice none (0 : Nat) (0 : Nat), Value.int IntKind.i64 n5])) w4)
  (
   ∃ n6 : Int,
   ∃ p7 : Option Addr,
   ∃ k8 : Nat,
   ∃ k9 : Nat,
   ∃ n10 : Int,
   (
    Row w4 { block := b1, off := (12 : Nat) } (0 : Nat) [Value.int IntKind.i64 n6, Value.slice p7 k8 k9, Value.int IntKind.i64 n10]) ∧
   Ca Try.prog (68 : Nat) #[Value.agg #[Value.int IntKind.i64 n6, Value.slice p7 k8 k9, Value.int IntKind.i64 n10], Value.int IntKind.i64 n2] w4 fun e11 w12 =>
   ∃ n13 : Int,
   ∃ p14 : Option Addr,
   ∃ k15 : Nat,
   ∃ k16 : Nat,
   ∃ n17 : Int,
   ∃ n18 : Int,
   (
    e11 = Ending.returned (Value.tuple #[Value.agg #[Value.int IntKind.i64 n13, Value.slice p14 k15 k16, Value.int IntKind.i64 n17], Value.int IntKind.i64 n18])) ∧
   LetA (Obj.cells #[Value.int IntKind.i64 (0 : Int), Value.slice none (0 : Nat) (0 : Nat), Value.int IntKind.i64 (0 : Int)] (32 : Nat)) w12 fun b19 w20 =>
   (
    WrRow w20 { block := b19, off := (0 : Nat) } (0 : Nat) [Value.int IntKind.i64 n13, Value.slice p14 k15 k16, Value.int IntKind.i64 n17]) ∧
   LetW (setRow w20 { block := b19, off := (0 : Nat) } (0 : Nat) [Value.int IntKind.i64 n13, Value.slice p14 k15 k16, Value.int IntKind.i64 n17]) fun w21 =>
   Br (n18 != (0 : Int))
    (
     R (Ending.returned (Value.tuple #[Value.slice none (0 : Nat) (0 : Nat), Value.int IntKind.i64 n18])) w21)
    (
     ∃ n22 : Int,
     ∃ p23 : Option Addr,
     ∃ k24 : Nat,
     ∃ k25 : Nat,
     ∃ n26 : Int,
     (
      Row w21 { block := b19, off := (0 : Nat) } (0 : Nat) [Value.int IntKind.i64 n22, Value.slice p23 k24 k25, Value.int IntKind.i64 n26]) ∧
     (
      WrRow w21 { block := b1, off := (12 : Nat) } (0 : Nat) [Value.int IntKind.i64 n22, Value.slice p23 k24 k25, Value.int IntKind.i64 n26]) ∧
     LetW (setRow w21 { block := b1, off := (12 : Nat) } (0 : Nat) [Value.int IntKind.i64 n22, Value.slice p23 k24 k25, Value.int IntKind.i64 n26]) fun w27 =>
     Ca Try.prog (63 : Nat) #[Value.pointer (some { block := b1, off := (0 : Nat) })] w27 fun e28 w29 =>
     ∃ p30 : Option Addr,
     ∃ k31 : Nat,
     ∃ k32 : Nat,
     (
      e28 = Ending.returned (Value.slice p30 k31 k32)) ∧
     R (Ending.returned (Value.tuple #[Value.slice p30 k31 k32, Value.int IntKind.i64 (0 : Int)])) w29))
theorem mdrain_ok (b1 : Nat) (n2 : Int) (w : World) (R : Ending → World → Prop) (h : mdrain b1 n2 w R) : Ca Try.prog 34 #[Value.pointer (some { block := b1, off := (0 : Nat) }), Value.int IntKind.i64 n2] w R :=
  Ca.of_fvc (c := bodyOf Try.f34) (by kernel_rfl) Try.func34 (by kernel_rfl) [] (Eq.mp (by kernel_rfl) h)

def mchain (b1 : Nat) (w : World) (R : Ending → World → Prop) : Prop :=
 LetA (Obj.cells #[Value.int IntKind.i64 (0 : Int), Value.slice none (0 : Nat) (0 : Nat), Value.int IntKind.i64 (0 : Int)] (32 : Nat)) w fun b2 w3 =>
 Ca Try.prog (56 : Nat) #[Value.pointer (some { block := b1, off := (0 : Nat) })] w3 fun e4 w5 =>
 ∃ b6 : Bool,
 (
  e4 = Ending.returned (Value.bool b6)) ∧
 Br (b6)
  (
   (
    WrRow w5 { block := b2, off := (0 : Nat) } (0 : Nat) [Value.int IntKind.i64 (0 : Int), Value.slice none (0 : Nat) (0 : Nat), Value.int IntKind.i64 (0 : Int)]) ∧
   LetW (setRow w5 { block := b2, off := (0 : Nat) } (0 : Nat) [Value.int IntKind.i64 (0 : Int), Value.slice none (0 : Nat) (0 : Nat), Value.int IntKind.i64 (0 : Int)]) fun w7 =>
   ∃ n8 : Int,
   ∃ p9 : Option Addr,
   ∃ k10 : Nat,
   ∃ k11 : Nat,
   ∃ n12 : Int,
   (
    Row w7 { block := b2, off := (0 : Nat) } (0 : Nat) [Value.int IntKind.i64 n8, Value.slice p9 k10 k11, Value.int IntKind.i64 n12]) ∧
   R (Ending.returned (Value.agg #[Value.int IntKind.i64 n8, Value.slice p9 k10 k11, Value.int IntKind.i64 n12])) w7)
  (
   ∃ n13 : Int,
   ∃ p14 : Option Addr,
   ∃ k15 : Nat,
   ∃ k16 : Nat,
   ∃ n17 : Int,
   (
    Row w5 { block := b1, off := (12 : Nat) } (0 : Nat) [Value.int IntKind.i64 n13, Value.slice p14 k15 k16, Value.int IntKind.i64 n17]) ∧
   Ca Try.prog (64 : Nat) #[Value.agg #[Value.int IntKind.i64 n13, Value.slice p14 k15 k16, Value.int IntKind.i64 n17]] w5 fun e18 w19 =>
   ∃ n20 : Int,
   ∃ p21 : Option Addr,
   ∃ k22 : Nat,
   ∃ k23 : Nat,
   ∃ n24 : Int,
   (
    e18 = Ending.returned (Value.agg #[Value.int IntKind.i64 n20, Value.slice p21 k22 k23, Value.int IntKind.i64 n24])) ∧
   (
    WrRow w19 { block := b2, off := (0 : Nat) } (0 : Nat) [Value.int IntKind.i64 n20, Value.slice p21 k22 k23, Value.int IntKind.i64 n24]) ∧
   LetW (setRow w19 { block := b2, off := (0 : Nat) } (0 : Nat) [Value.int IntKind.i64 n20, Value.slice p21 k22 k23, Value.int IntKind.i64 n24]) fun w25 =>
   ∃ n26 : Int,
   ∃ p27 : Option Addr,
   ∃ k28 : Nat,
   ∃ k29 : Nat,
   ∃ n30 : Int,
   (
    Row w25 { block := b2, off := (0 : Nat) } (0 : Nat) [Value.int IntKind.i64 n26, Value.slice p27 k28 k29, Value.int IntKind.i64 n30]) ∧
   R (Ending.returned (Value.agg #[Value.int IntKind.i64 n26, Value.slice p27 k28 k29, Value.int IntKind.i64 n30])) w25)
theorem mchain_ok (b1 : Nat) (w : World) (R : Ending → World → Prop) (h : mchain b1 w R) : Ca Try.prog 28 #[Value.pointer (some { block := b1, off := (0 : Nat) })] w R :=
  Ca.of_fvc (c := bodyOf Try.f28) (by kernel_rfl) Try.func28 (by kernel_rfl) [] (Eq.mp (by kernel_rfl) h)

def mwhole (b1 : Nat) (n2 : Int) (w : World) (R : Ending → World → Prop) : Prop :=
 Ca Try.prog (56 : Nat) #[Value.pointer (some { block := b1, off := (0 : Nat) })] w fun e3 w4 =>
 ∃ b5 : Bool,
 (
  e3 = Ending.returned (Value.bool b5)) ∧
 Br (!b5)
  (
   Ca Try.prog (67 : Nat) #[Value.pointer (some { block := b1, off := (0 : Nat) }), Value.int IntKind.i64 n2] w4 fun e6 w7 =>
   ∃ b8 : Bool,
   (
    e6 = Ending.returned (Value.bool b8)) ∧
   Br (b8)
    (
     (
      (
       (0 : Int) ≤ n2) ∧
      n2 < (↑(6 : Nat) : Int)) ∧
     ∃ b9 : Bool,
     (
      w7.cell? ((Addr.mk b1 (21 : Nat) none).add (n2.toNat * (1 : Nat))) = some (Value.bool b9)) ∧
     R (Ending.returned (Value.bool b9)) w7)
    (
     R (Ending.returned (Value.bool false)) w7))
  (
   R (Ending.returned (Value.bool false)) w4)
theorem mwhole_ok (b1 : Nat) (n2 : Int) (w : World) (R : Ending → World → Prop) (h : mwhole b1 n2 w R) : Ca Try.prog 33 #[Value.pointer (some { block := b1, off := (0 : Nat) }), Value.int IntKind.i64 n2] w R :=
  Ca.of_fvc (c := bodyOf Try.f33) (by kernel_rfl) Try.func33 (by kernel_rfl) [] (Eq.mp (by kernel_rfl) h)

def mnew (n1 : Int) (n2 : Int) (n3 : Int) (p4 : Option Addr) (k5 : Nat) (k6 : Nat) (n7 : Int) (n8 : Int) (n9 : Int) (n10 : Int) (n11 : Int) (n12 : Int) (n13 : Int) (n14 : Int) (w : World) (R : Ending → World → Prop) : Prop :=
 LetA (Obj.cells #[Value.int IntKind.i64 n1, Value.int IntKind.i64 n2, Value.int IntKind.i64 n3, Value.slice p4 k5 k6, Value.int IntKind.i64 n7, Value.int IntKind.i64 n8, Value.int IntKind.i64 n9, Value.int IntKind.i64 n10, Value.int IntKind.i64 n11, Value.int IntKind.i64 n12, Value.int IntKind.i64 n13, Value.int IntKind.i64 n14] (24 : Nat)) w fun b15 w16 =>
 ∃ n17 : Int,
 ∃ n18 : Int,
 ∃ n19 : Int,
 ∃ p20 : Option Addr,
 ∃ k21 : Nat,
 ∃ k22 : Nat,
 ∃ n23 : Int,
 ∃ n24 : Int,
 ∃ n25 : Int,
 ∃ n26 : Int,
 ∃ n27 : Int,
 ∃ n28 : Int,
 ∃ n29 : Int,
 ∃ n30 : Int,
 (
  Row w16 { block := b15, off := (0 : Nat) } (0 : Nat) [Value.int IntKind.i64 n17, Value.int IntKind.i64 n18, Value.int IntKind.i64 n19, Value.slice p20 k21 k22, Value.int IntKind.i64 n23, Value.int IntKind.i64 n24, Value.int IntKind.i64 n25, Value.int IntKind.i64 n26, Value.int IntKind.i64 n27, Value.int IntKind.i64 n28, Value.int IntKind.i64 n29, Value.int IntKind.i64 n30]) ∧
 Ca Try.prog (18 : Nat) #[Value.agg #[Value.int IntKind.i64 n17, Value.int IntKind.i64 n18, Value.int IntKind.i64 n19, Value.slice p20 k21 k22, Value.int IntKind.i64 n23, Value.int IntKind.i64 n24, Value.int IntKind.i64 n25, Value.int IntKind.i64 n26, Value.int IntKind.i64 n27, Value.int IntKind.i64 n28, Value.int IntKind.i64 n29, Value.int IntKind.i64 n30]] w16 fun e31 w32 =>
 ∃ n33 : Int,
 ∃ p34 : Option Addr,
 ∃ k35 : Nat,
 ∃ k36 : Nat,
 ∃ n37 : Int,
 ∃ n38 : Int,
 (
  e31 = Ending.returned (Value.tuple #[Value.agg #[Value.int IntKind.i64 n33, Value.slice p34 k35 k36, Value.int IntKind.i64 n37], Value.int IntKind.i64 n38])) ∧
 LetA (Obj.cells #[Value.int IntKind.i64 (0 : Int), Value.slice none (0 : Nat) (0 : Nat), Value.int IntKind.i64 (0 : Int)] (32 : Nat)) w32 fun b39 w40 =>
 (
  WrRow w40 { block := b39, off := (0 : Nat) } (0 : Nat) [Value.int IntKind.i64 n33, Value.slice p34 k35 k36, Value.int IntKind.i64 n37]) ∧
 LetW (setRow w40 { block := b39, off := (0 : Nat) } (0 : Nat) [Value.int IntKind.i64 n33, Value.slice p34 k35 k36, Value.int IntKind.i64 n37]) fun w41 =>
 Br (n38 != (0 : Int))
  (
   R (Ending.returned (Value.tuple #[Value.pointer none, Value.int IntKind.i64 n38])) w41)
  (
   ∃ n42 : Int,
   ∃ n43 : Int,
   ∃ n44 : Int,
   ∃ p45 : Option Addr,
   ∃ k46 : Nat,
   ∃ k47 : Nat,
   ∃ n48 : Int,
   ∃ n49 : Int,
   ∃ n50 : Int,
   ∃ n51 : Int,
   ∃ n52 : Int,
   ∃ n53 : Int,
   ∃ n54 : Int,
   ∃ n55 : Int,
   (
    Row w41 { block := b15, off := (0 : Nat) } (0 : Nat) [Value.int IntKind.i64 n42, Value.int IntKind.i64 n43, Value.int IntKind.i64 n44, Value.slice p45 k46 k47, Value.int IntKind.i64 n48, Value.int IntKind.i64 n49, Value.int IntKind.i64 n50, Value.int IntKind.i64 n51, Value.int IntKind.i64 n52, Value.int IntKind.i64 n53, Value.int IntKind.i64 n54, Value.int IntKind.i64 n55]) ∧
   ∃ n56 : Int,
   ∃ p57 : Option Addr,
   ∃ k58 : Nat,
   ∃ k59 : Nat,
   ∃ n60 : Int,
   (
    Row w41 { block := b39, off := (0 : Nat) } (0 : Nat) [Value.int IntKind.i64 n56, Value.slice p57 k58 k59, Value.int IntKind.i64 n60]) ∧
   LetA (Obj.cells #[Value.int IntKind.i64 n42, Value.int IntKind.i64 n43, Value.int IntKind.i64 n44, Value.slice p45 k46 k47, Value.int IntKind.i64 n48, Value.int IntKind.i64 n49, Value.int IntKind.i64 n50, Value.int IntKind.i64 n51, Value.int IntKind.i64 n52, Value.int IntKind.i64 n53, Value.int IntKind.i64 n54, Value.int IntKind.i64 n55, Value.int IntKind.i64 n56, Value.slice p57 k58 k59, Value.int IntKind.i64 n60, Value.int IntKind.i64 (0 : Int), Value.int IntKind.i64 (0 : Int), Value.int IntKind.i64 (0 : Int), Value.int IntKind.i64 (0 : Int), Value.int IntKind.i64 (0 : Int), Value.int IntKind.i64 (0 : Int), Value.bool false, Value.bool false, Value.bool false, Value.bool false, Value.bool false, Value.bool false] (106 : Nat)) w41 fun b61 w62 =>
   ∃ p63 : Option Addr,
   ∃ k64 : Nat,
   ∃ k65 : Nat,
   (
    w62.cell? { block := b39, off := (1 : Nat) } = some (Value.slice p63 k64 k65)) ∧
   ∃ I66 : Nat → List Value → World → Prop,
   (
    ∃ k67 : Nat,
    I66 k67 [Value.int IntKind.i64 (0 : Int)] w62) ∧
   ∀ n68 : Int,
   ∀ k69 : Nat,
   ∀ w70 : World,
   (
    I66 k69 [Value.int IntKind.i64 n68] w70) →
   Br (decide (n68 < (↑k64 : Int)))
    (
     NilOk p63 fun a71 =>
     (
      (
       (0 : Int) ≤ n68) ∧
      n68 < (↑k64 : Int)) ∧
     ∃ n72 : Int,
     ∃ n73 : Int,
     (
      Row w70 (a71.add (n68.toNat * (2 : Nat))) (0 : Nat) [Value.int IntKind.i64 n72, Value.int IntKind.i64 n73]) ∧
     LetA (Obj.cells #[Value.int IntKind.i64 (0 : Int), Value.int IntKind.i64 (0 : Int)] (64 : Nat)) w70 fun b74 w75 =>
     (
      WrRow w75 { block := b74, off := (0 : Nat) } (0 : Nat) [Value.int IntKind.i64 n72, Value.int IntKind.i64 n73]) ∧
     LetW (setRow w75 { block := b74, off := (0 : Nat) } (0 : Nat) [Value.int IntKind.i64 n72, Value.int IntKind.i64 n73]) fun w76 =>
     ∃ n77 : Int,
     (
      w76.cell? { block := b74, off := (0 : Nat) } = some (Value.int IntKind.i64 n77)) ∧
     (
      (
       (0 : Int) ≤ n77) ∧
      n77 < (↑(6 : Nat) : Int)) ∧
     (
      Wr w76 ((Addr.mk b61 (21 : Nat) none).add (n77.toNat * (1 : Nat)))) ∧
     LetW (w76.setCell ((Addr.mk b61 (21 : Nat) none).add (n77.toNat * (1 : Nat))) (Value.bool true)) fun w78 =>
     LetI (IntKind.i64.wrap (n68 + (1 : Int))) fun n79 =>
     ∃ k80 : Nat,
     (
      k80 < k69) ∧
     I66 k80 [Value.int IntKind.i64 n79] w78)
    (
     R (Ending.returned (Value.tuple #[Value.pointer (some { block := b61, off := (0 : Nat) }), Value.int IntKind.i64 (0 : Int)])) w70))
theorem mnew_ok (n1 : Int) (n2 : Int) (n3 : Int) (p4 : Option Addr) (k5 : Nat) (k6 : Nat) (n7 : Int) (n8 : Int) (n9 : Int) (n10 : Int) (n11 : Int) (n12 : Int) (n13 : Int) (n14 : Int) (w : World) (R : Ending → World → Prop) (h : mnew n1 n2 n3 p4 k5 k6 n7 n8 n9 n10 n11 n12 n13 n14 w R) : Ca Try.prog 26 #[Value.agg #[Value.int IntKind.i64 n1, Value.int IntKind.i64 n2, Value.int IntKind.i64 n3, Value.slice p4 k5 k6, Value.int IntKind.i64 n7, Value.int IntKind.i64 n8, Value.int IntKind.i64 n9, Value.int IntKind.i64 n10, Value.int IntKind.i64 n11, Value.int IntKind.i64 n12, Value.int IntKind.i64 n13, Value.int IntKind.i64 n14]] w R :=
  Ca.of_fvc (c := bodyOf Try.f26) (by kernel_rfl) Try.func26 (by kernel_rfl) [] (Eq.mp (by kernel_rfl) h)

def samec19 (n1 : Int) (p2 : Option Addr) (k3 : Nat) (k4 : Nat) (n5 : Int) (n6 : Int) (p7 : Option Addr) (k8 : Nat) (k9 : Nat) (n10 : Int) (w : World) (R : Ending → World → Prop) : Prop :=
 LetA (Obj.cells #[Value.int IntKind.i64 n1, Value.slice p2 k3 k4, Value.int IntKind.i64 n5] (32 : Nat)) w fun b11 w12 =>
 LetA (Obj.cells #[Value.int IntKind.i64 n6, Value.slice p7 k8 k9, Value.int IntKind.i64 n10] (32 : Nat)) w12 fun b13 w14 =>
 ∃ n15 : Int,
 (
  w14.cell? { block := b11, off := (0 : Nat) } = some (Value.int IntKind.i64 n15)) ∧
 ∃ n16 : Int,
 (
  w14.cell? { block := b13, off := (0 : Nat) } = some (Value.int IntKind.i64 n16)) ∧
 Br (n15 != n16)
  (
   R (Ending.returned (Value.bool false)) w14)
  (
   ∃ n17 : Int,
   (
    w14.cell? { block := b11, off := (2 : Nat) } = some (Value.int IntKind.i64 n17)) ∧
   ∃ n18 : Int,
   (
    w14.cell? { block := b13, off := (2 : Nat) } = some (Value.int IntKind.i64 n18)) ∧
   Br (n17 != n18)
    (
     R (Ending.returned (Value.bool false)) w14)
    (
     ∃ p19 : Option Addr,
     ∃ k20 : Nat,
     ∃ k21 : Nat,
     (
      w14.cell? { block := b11, off := (1 : Nat) } = some (Value.slice p19 k20 k21)) ∧
     ∃ p22 : Option Addr,
     ∃ k23 : Nat,
     ∃ k24 : Nat,
     (
      w14.cell? { block := b13, off := (1 : Nat) } = some (Value.slice p22 k23 k24)) ∧
     Br ((↑k20 : Int) != (↑k23 : Int))
      (
       R (Ending.returned (Value.bool false)) w14)
      (
       ∃ I25 : Nat → List Value → World → Prop,
       (
        ∃ k26 : Nat,
        I25 k26 [Value.bool false, Value.int IntKind.i64 (0 : Int)] w14) ∧
       ∀ b27 : Bool,
       ∀ n28 : Int,
       ∀ k29 : Nat,
       ∀ w30 : World,
       (
        I25 k29 [Value.bool b27, Value.int IntKind.i64 n28] w30) →
       ∃ p31 : Option Addr,
       ∃ k32 : Nat,
       ∃ k33 : Nat,
       (
        w30.cell? { block := b11, off := (1 : Nat) } = some (Value.slice p31 k32 k33)) ∧
       Br (decide (n28 < (↑k32 : Int)))
        (
         ∃ p34 : Option Addr,
         ∃ k35 : Nat,
         ∃ k36 : Nat,
         (
          w30.cell? { block := b11, off := (1 : Nat) } = some (Value.slice p34 k35 k36)) ∧
         NilOk p34 fun a37 =>
         (
          (
           (0 : Int) ≤ n28) ∧
          n28 < (↑k35 : Int)) ∧
         ∃ n38 : Int,
         ∃ n39 : Int,
         (
          Row w30 (a37.add (n28.toNat * (2 : Nat))) (0 : Nat) [Value.int IntKind.i64 n38, Value.int IntKind.i64 n39]) ∧
         ∃ p40 : Option Addr,
         ∃ k41 : Nat,
         ∃ k42 : Nat,
         (
          w30.cell? { block := b13, off := (1 : Nat) } = some (Value.slice p40 k41 k42)) ∧
         NilOk p40 fun a43 =>
         (
          (
           (0 : Int) ≤ n28) ∧
          n28 < (↑k41 : Int)) ∧
         ∃ n44 : Int,
         ∃ n45 : Int,
         (
          Row w30 (a43.add (n28.toNat * (2 : Nat))) (0 : Nat) [Value.int IntKind.i64 n44, Value.int IntKind.i64 n45]) ∧
         Br (!(n38 == n44 && (n39 == n45 && true)))
          (
           R (Ending.returned (Value.bool false)) w30)
          (
           LetI (IntKind.i64.wrap (n28 + (1 : Int))) fun n46 =>
           ∃ k47 : Nat,
           (
            k47 < k29) ∧
           I25 k47 [Value.bool b27, Value.int IntKind.i64 n46] w30))
        (
         R (Ending.returned (Value.bool true)) w30))))
theorem samec19_ok (n1 : Int) (p2 : Option Addr) (k3 : Nat) (k4 : Nat) (n5 : Int) (n6 : Int) (p7 : Option Addr) (k8 : Nat) (k9 : Nat) (n10 : Int) (w : World) (R : Ending → World → Prop) (h : samec19 n1 p2 k3 k4 n5 n6 p7 k8 k9 n10 w R) : Ca Try.prog 35 #[Value.agg #[Value.int IntKind.i64 n1, Value.slice p2 k3 k4, Value.int IntKind.i64 n5], Value.agg #[Value.int IntKind.i64 n6, Value.slice p7 k8 k9, Value.int IntKind.i64 n10]] w R :=
  Ca.of_fvc (c := bodyOf Try.f35) (by kernel_rfl) Try.func35 (by kernel_rfl) [] (Eq.mp (by kernel_rfl) h)

def mgreat (p1 : Option Addr) (k2 : Nat) (_k3 : Nat) (n4 : Int) (w : World) (R : Ending → World → Prop) : Prop :=
 ∃ I5 : Nat → List Value → World → Prop,
 (
  ∃ k6 : Nat,
  I5 k6 [Value.bool false, Value.int IntKind.i64 (0 : Int)] w) ∧
 ∀ b7 : Bool,
 ∀ n8 : Int,
 ∀ k9 : Nat,
 ∀ w10 : World,
 (
  I5 k9 [Value.bool b7, Value.int IntKind.i64 n8] w10) →
 Br (decide (n8 < (↑k2 : Int)))
  (
   NilOk p1 fun a11 =>
   (
    (
     (0 : Int) ≤ n8) ∧
    n8 < (↑k2 : Int)) ∧
   ∃ p12 : Option Addr,
   ∃ k13 : Nat,
   ∃ k14 : Nat,
   (
    w10.cell? ((((a11.add (n8.toNat * (33 : Nat))).add (4 : Nat)).add (23 : Nat)).add (1 : Nat)) = some (Value.slice p12 k13 k14)) ∧
   Br (decide ((↑k13 : Int) > (10 : Int)))
    (
     R (Ending.returned (Value.bool true)) w10)
    (
     LetI (IntKind.i64.wrap (n8 + (1 : Int))) fun n15 =>
     ∃ k16 : Nat,
     (
      k16 < k9) ∧
     I5 k16 [Value.bool b7, Value.int IntKind.i64 n15] w10))
  (
   R (Ending.returned (Value.bool (decide ((↑k2 : Int) > n4)))) w10)
theorem mgreat_ok (p1 : Option Addr) (k2 : Nat) (k3 : Nat) (n4 : Int) (w : World) (R : Ending → World → Prop) (h : mgreat p1 k2 k3 n4 w R) : Ca Try.prog 24 #[Value.slice p1 k2 k3, Value.int IntKind.i64 n4] w R :=
  Ca.of_fvc (c := bodyOf Try.f24) (by kernel_rfl) Try.func24 (by kernel_rfl) [] (Eq.mp (by kernel_rfl) h)

def mnodes (n1 : Int) (p2 : Option Addr) (k3 : Nat) (k4 : Nat) (n5 : Int) (p6 : Option Addr) (k7 : Nat) (_k8 : Nat) (w : World) (R : Ending → World → Prop) : Prop :=
 LetA (Obj.cells #[Value.int IntKind.i64 n1, Value.slice p2 k3 k4, Value.int IntKind.i64 n5] (32 : Nat)) w fun b9 w10 =>
 ∃ p11 : Option Addr,
 ∃ k12 : Nat,
 ∃ k13 : Nat,
 (
  w10.cell? { block := b9, off := (1 : Nat) } = some (Value.slice p11 k12 k13)) ∧
 Br ((↑k12 : Int) != (↑k7 : Int))
  (
   R (Ending.returned (Value.bool false)) w10)
  (
   ∃ I14 : Nat → List Value → World → Prop,
   (
    ∃ k15 : Nat,
    I14 k15 [Value.bool false, Value.int IntKind.i64 (0 : Int)] w10) ∧
   ∀ b16 : Bool,
   ∀ n17 : Int,
   ∀ k18 : Nat,
   ∀ w19 : World,
   (
    I14 k18 [Value.bool b16, Value.int IntKind.i64 n17] w19) →
   Br (decide (n17 < (↑k7 : Int)))
    (
     ∃ p20 : Option Addr,
     ∃ k21 : Nat,
     ∃ k22 : Nat,
     (
      w19.cell? { block := b9, off := (1 : Nat) } = some (Value.slice p20 k21 k22)) ∧
     NilOk p20 fun a23 =>
     (
      (
       (0 : Int) ≤ n17) ∧
      n17 < (↑k21 : Int)) ∧
     ∃ n24 : Int,
     (
      w19.cell? (a23.add (n17.toNat * (2 : Nat))) = some (Value.int IntKind.i64 n24)) ∧
     NilOk p6 fun a25 =>
     (
      (
       (0 : Int) ≤ n17) ∧
      n17 < (↑k7 : Int)) ∧
     ∃ n26 : Int,
     (
      w19.cell? (a25.add (n17.toNat * (1 : Nat))) = some (Value.int IntKind.i64 n26)) ∧
     Br (n24 != n26)
      (
       R (Ending.returned (Value.bool false)) w19)
      (
       LetI (IntKind.i64.wrap (n17 + (1 : Int))) fun n27 =>
       ∃ k28 : Nat,
       (
        k28 < k18) ∧
       I14 k28 [Value.bool b16, Value.int IntKind.i64 n27] w19))
    (
     R (Ending.returned (Value.bool true)) w19))
theorem mnodes_ok (n1 : Int) (p2 : Option Addr) (k3 : Nat) (k4 : Nat) (n5 : Int) (p6 : Option Addr) (k7 : Nat) (k8 : Nat) (w : World) (R : Ending → World → Prop) (h : mnodes n1 p2 k3 k4 n5 p6 k7 k8 w R) : Ca Try.prog 55 #[Value.agg #[Value.int IntKind.i64 n1, Value.slice p2 k3 k4, Value.int IntKind.i64 n5], Value.slice p6 k7 k8] w R :=
  Ca.of_fvc (c := bodyOf Try.f55) (by kernel_rfl) Try.func55 (by kernel_rfl) [] (Eq.mp (by kernel_rfl) h)

def mchained (w : World) (R : Ending → World → Prop) : Prop :=
 Ca Try.prog (14 : Nat) #[Value.agg #[Value.int IntKind.i64 (3 : Int), Value.int IntKind.i64 (3 : Int), Value.int IntKind.i64 (0 : Int), Value.slice none (0 : Nat) (0 : Nat), Value.int IntKind.i64 (0 : Int), Value.int IntKind.i64 (0 : Int), Value.int IntKind.i64 (0 : Int), Value.int IntKind.i64 (0 : Int), Value.int IntKind.i64 (4 : Int), Value.int IntKind.i64 (0 : Int), Value.int IntKind.i64 (0 : Int), Value.int IntKind.i64 (0 : Int)]] w fun e1 w2 =>
 ∃ n3 : Int,
 ∃ n4 : Int,
 ∃ n5 : Int,
 ∃ p6 : Option Addr,
 ∃ k7 : Nat,
 ∃ k8 : Nat,
 ∃ n9 : Int,
 ∃ n10 : Int,
 ∃ n11 : Int,
 ∃ n12 : Int,
 ∃ n13 : Int,
 ∃ n14 : Int,
 ∃ n15 : Int,
 ∃ n16 : Int,
 (
  e1 = Ending.returned (Value.agg #[Value.int IntKind.i64 n3, Value.int IntKind.i64 n4, Value.int IntKind.i64 n5, Value.slice p6 k7 k8, Value.int IntKind.i64 n9, Value.int IntKind.i64 n10, Value.int IntKind.i64 n11, Value.int IntKind.i64 n12, Value.int IntKind.i64 n13, Value.int IntKind.i64 n14, Value.int IntKind.i64 n15, Value.int IntKind.i64 n16])) ∧
 Ca Try.prog (26 : Nat) #[Value.agg #[Value.int IntKind.i64 n3, Value.int IntKind.i64 n4, Value.int IntKind.i64 n5, Value.slice p6 k7 k8, Value.int IntKind.i64 n9, Value.int IntKind.i64 n10, Value.int IntKind.i64 n11, Value.int IntKind.i64 n12, Value.int IntKind.i64 n13, Value.int IntKind.i64 n14, Value.int IntKind.i64 n15, Value.int IntKind.i64 n16]] w2 fun e17 w18 =>
 ∃ p19 : Option Addr,
 ∃ n20 : Int,
 (
  e17 = Ending.returned (Value.tuple #[Value.pointer p19, Value.int IntKind.i64 n20])) ∧
 Br (n20 != (0 : Int))
  (
   R (Ending.returned (Value.bool false)) w18)
  (
   Ca Try.prog (27 : Nat) #[Value.pointer p19, Value.int IntKind.i64 (0 : Int), Value.agg #[Value.int IntKind.i64 (11 : Int), Value.int IntKind.i64 (1 : Int), Value.int IntKind.i64 (0 : Int), Value.int IntKind.i64 (0 : Int), Value.int IntKind.i64 (0 : Int), Value.int IntKind.i64 (0 : Int), Value.int IntKind.i64 (0 : Int), Value.int IntKind.i64 (0 : Int), Value.string { data := #[] }, Value.string { data := #[] }, Value.int IntKind.i64 (0 : Int), Value.int IntKind.i64 (0 : Int), Value.string { data := #[] }, Value.int IntKind.i64 (0 : Int), Value.int IntKind.i64 (0 : Int), Value.int IntKind.i64 (0 : Int), Value.int IntKind.i64 (0 : Int), Value.int IntKind.i64 (0 : Int), Value.int IntKind.i64 (0 : Int), Value.int IntKind.i64 (0 : Int), Value.string { data := #[] }, Value.string { data := #[] }, Value.int IntKind.i64 (0 : Int), Value.int IntKind.i64 (0 : Int), Value.slice none (0 : Nat) (0 : Nat), Value.int IntKind.i64 (0 : Int), Value.int IntKind.i64 (1 : Int), Value.int IntKind.i64 (0 : Int), Value.int IntKind.i64 (0 : Int)], Value.int IntKind.i64 (5 : Int)] w18 fun e21 w22 =>
   ∃ p23 : Option Addr,
   ∃ k24 : Nat,
   ∃ k25 : Nat,
   (
    e21 = Ending.returned (Value.slice p23 k24 k25)) ∧
   Ca Try.prog (27 : Nat) #[Value.pointer p19, Value.int IntKind.i64 (1 : Int), Value.agg #[Value.int IntKind.i64 (11 : Int), Value.int IntKind.i64 (1 : Int), Value.int IntKind.i64 (0 : Int), Value.int IntKind.i64 (0 : Int), Value.int IntKind.i64 (0 : Int), Value.int IntKind.i64 (0 : Int), Value.int IntKind.i64 (0 : Int), Value.int IntKind.i64 (0 : Int), Value.string { data := #[] }, Value.string { data := #[] }, Value.int IntKind.i64 (0 : Int), Value.int IntKind.i64 (0 : Int), Value.string { data := #[] }, Value.int IntKind.i64 (0 : Int), Value.int IntKind.i64 (0 : Int), Value.int IntKind.i64 (0 : Int), Value.int IntKind.i64 (0 : Int), Value.int IntKind.i64 (0 : Int), Value.int IntKind.i64 (0 : Int), Value.int IntKind.i64 (0 : Int), Value.string { data := #[] }, Value.string { data := #[] }, Value.int IntKind.i64 (0 : Int), Value.int IntKind.i64 (0 : Int), Value.slice none (0 : Nat) (0 : Nat), Value.int IntKind.i64 (0 : Int), Value.int IntKind.i64 (1 : Int), Value.int IntKind.i64 (0 : Int), Value.int IntKind.i64 (0 : Int)], Value.int IntKind.i64 (5 : Int)] w22 fun e26 w27 =>
   ∃ p28 : Option Addr,
   ∃ k29 : Nat,
   ∃ k30 : Nat,
   (
    e26 = Ending.returned (Value.slice p28 k29 k30)) ∧
   Ca Try.prog (31 : Nat) #[Value.pointer p19, Value.int IntKind.i64 (5 : Int)] w27 fun e31 w32 =>
   ∃ p33 : Option Addr,
   ∃ k34 : Nat,
   ∃ k35 : Nat,
   (
    e31 = Ending.returned (Value.slice p33 k34 k35)) ∧
   Br ((↑k24 : Int) != (0 : Int))
    (
     R (Ending.returned (Value.bool false)) w32)
    (
     Br ((↑k29 : Int) != (0 : Int))
      (
       R (Ending.returned (Value.bool false)) w32)
      (
       Br ((↑k34 : Int) != (3 : Int))
        (
         R (Ending.returned (Value.bool false)) w32)
        (
         NilOk p33 fun a36 =>
         (
          (
           (0 : Int) ≤ (2 : Int)) ∧
          (2 : Int) < (↑k34 : Int)) ∧
         ∃ n37 : Int,
         (
          w32.cell? (a36.add (60 : Nat)) = some (Value.int IntKind.i64 n37)) ∧
         Br (n37 != (2 : Int))
          (
           R (Ending.returned (Value.bool false)) w32)
          (
           NilOk p33 fun a38 =>
           (
            (
             (0 : Int) ≤ (2 : Int)) ∧
            (2 : Int) < (↑k34 : Int)) ∧
           ∃ n39 : Int,
           (
            w32.cell? ((a38.add (60 : Nat)).add (1 : Nat)) = some (Value.int IntKind.i64 n39)) ∧
           Br (n39 != (8 : Int))
            (
             R (Ending.returned (Value.bool false)) w32)
            (
             Ca Try.prog (28 : Nat) #[Value.pointer p19] w32 fun e40 w41 =>
             ∃ n42 : Int,
             ∃ p43 : Option Addr,
             ∃ k44 : Nat,
             ∃ k45 : Nat,
             ∃ n46 : Int,
             (
              e40 = Ending.returned (Value.agg #[Value.int IntKind.i64 n42, Value.slice p43 k44 k45, Value.int IntKind.i64 n46])) ∧
             LetA (Obj.cells #[Value.int IntKind.i64 (0 : Int), Value.int IntKind.i64 (1 : Int)] (3 : Nat)) w41 fun b47 w48 =>
             Ca Try.prog (55 : Nat) #[Value.agg #[Value.int IntKind.i64 n42, Value.slice p43 k44 k45, Value.int IntKind.i64 n46], Value.slice (some { block := b47, off := (0 : Nat) }) (2 : Nat) (2 : Nat)] w48 fun e49 w50 =>
             ∃ b51 : Bool,
             (
              e49 = Ending.returned (Value.bool b51)) ∧
             Br (!b51)
              (
               R (Ending.returned (Value.bool false)) w50)
              (
               Ca Try.prog (29 : Nat) #[Value.pointer p19, Value.int IntKind.i64 (2 : Int), Value.int IntKind.i64 (5 : Int)] w50 fun e52 w53 =>
               ∃ p54 : Option Addr,
               ∃ k55 : Nat,
               ∃ k56 : Nat,
               ∃ n57 : Int,
               (
                e52 = Ending.returned (Value.tuple #[Value.slice p54 k55 k56, Value.int IntKind.i64 n57])) ∧
               Ca Try.prog (29 : Nat) #[Value.pointer p19, Value.int IntKind.i64 (2 : Int), Value.int IntKind.i64 (5 : Int)] w53 fun e58 w59 =>
               ∃ p60 : Option Addr,
               ∃ k61 : Nat,
               ∃ k62 : Nat,
               ∃ n63 : Int,
               (
                e58 = Ending.returned (Value.tuple #[Value.slice p60 k61 k62, Value.int IntKind.i64 n63])) ∧
               Ca Try.prog (28 : Nat) #[Value.pointer p19] w59 fun e64 w65 =>
               ∃ n66 : Int,
               ∃ p67 : Option Addr,
               ∃ k68 : Nat,
               ∃ k69 : Nat,
               ∃ n70 : Int,
               (
                e64 = Ending.returned (Value.agg #[Value.int IntKind.i64 n66, Value.slice p67 k68 k69, Value.int IntKind.i64 n70])) ∧
               LetA (Obj.cells #[Value.int IntKind.i64 (0 : Int), Value.slice none (0 : Nat) (0 : Nat), Value.int IntKind.i64 (0 : Int)] (32 : Nat)) w65 fun b71 w72 =>
               (
                WrRow w72 { block := b71, off := (0 : Nat) } (0 : Nat) [Value.int IntKind.i64 n66, Value.slice p67 k68 k69, Value.int IntKind.i64 n70]) ∧
               LetW (setRow w72 { block := b71, off := (0 : Nat) } (0 : Nat) [Value.int IntKind.i64 n66, Value.slice p67 k68 k69, Value.int IntKind.i64 n70]) fun w73 =>
               Ca Try.prog (30 : Nat) #[Value.pointer p19, Value.int IntKind.i64 (0 : Int)] w73 fun e74 w75 =>
               ∃ p76 : Option Addr,
               ∃ k77 : Nat,
               ∃ k78 : Nat,
               ∃ n79 : Int,
               (
                e74 = Ending.returned (Value.tuple #[Value.slice p76 k77 k78, Value.int IntKind.i64 n79])) ∧
               Ca Try.prog (30 : Nat) #[Value.pointer p19, Value.int IntKind.i64 (1 : Int)] w75 fun e80 w81 =>
               ∃ p82 : Option Addr,
               ∃ k83 : Nat,
               ∃ k84 : Nat,
               ∃ n85 : Int,
               (
                e80 = Ending.returned (Value.tuple #[Value.slice p82 k83 k84, Value.int IntKind.i64 n85])) ∧
               Br (n57 == (0 : Int))
                (
                 Br (n63 == (62 : Int))
                  (
                   ∃ n86 : Int,
                   ∃ p87 : Option Addr,
                   ∃ k88 : Nat,
                   ∃ k89 : Nat,
                   ∃ n90 : Int,
                   (
                    Row w81 { block := b71, off := (0 : Nat) } (0 : Nat) [Value.int IntKind.i64 n86, Value.slice p87 k88 k89, Value.int IntKind.i64 n90]) ∧
                   LetA (Obj.cells #[Value.int IntKind.i64 (0 : Int), Value.int IntKind.i64 (1 : Int), Value.int IntKind.i64 (2 : Int)] (3 : Nat)) w81 fun b91 w92 =>
                   Ca Try.prog (55 : Nat) #[Value.agg #[Value.int IntKind.i64 n86, Value.slice p87 k88 k89, Value.int IntKind.i64 n90], Value.slice (some { block := b91, off := (0 : Nat) }) (3 : Nat) (3 : Nat)] w92 fun e93 w94 =>
                   ∃ b95 : Bool,
                   (
                    e93 = Ending.returned (Value.bool b95)) ∧
                   Br (b95)
                    (
                     Br (n79 == (0 : Int))
                      (
                       Br (n85 == (72 : Int))
                        (
                         Ca Try.prog (33 : Nat) #[Value.pointer p19, Value.int IntKind.i64 (2 : Int)] w94 fun e96 w97 =>
                         ∃ b98 : Bool,
                         (
                          e96 = Ending.returned (Value.bool b98)) ∧
                         R (Ending.returned (Value.bool !b98)) w97)
                        (
                         R (Ending.returned (Value.bool false)) w94))
                      (
                       R (Ending.returned (Value.bool false)) w94))
                    (
                     R (Ending.returned (Value.bool false)) w94))
                  (
                   R (Ending.returned (Value.bool false)) w81))
                (
                 R (Ending.returned (Value.bool false)) w81))))))))
theorem mchained_ok (w : World) (R : Ending → World → Prop) (h : mchained  w R) : Ca Try.prog 25 #[] w R :=
  Ca.of_fvc (c := bodyOf Try.f25) (by kernel_rfl) Try.func25 (by kernel_rfl) [] (Eq.mp (by kernel_rfl) h)

end Go.Proofs.Ytljipmhkpnigkaa
