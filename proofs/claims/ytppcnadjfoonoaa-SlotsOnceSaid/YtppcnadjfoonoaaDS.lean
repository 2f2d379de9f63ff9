/- The verification conditions of this seat's functions, printed by a program; the kernel holds each against the loaded code. -/
import Derived.Test.YtppcnadjfoonoaaProg
import Derived.KernelRfl
import Derived.Test.YtppcnadjfoonoaaV5
set_option maxRecDepth 100000
namespace Go.Proofs.Ytppcnadjfoonoaa
open Go Go.Vc Go.Proofs
def snew (w : World) (R : Ending → World → Prop) : Prop :=
 LetA (Obj.cells #[Value.bool true, Value.int IntKind.u32 (0 : Int), Value.int IntKind.i32 (0 : Int), Value.int IntKind.u32 (0 : Int), Value.bool false, Value.int IntKind.i64 (0 : Int), Value.int IntKind.i64 (0 : Int), Value.int IntKind.i64 (0 : Int), Value.string { data := #[] }, Value.int IntKind.i64 (0 : Int), Value.int IntKind.i64 (0 : Int)] (48 : Nat)) w fun b1 w2 =>
 R (Ending.returned (Value.pointer (some { block := b1, off := (0 : Nat) }))) w2
theorem snew_ok (w : World) (R : Ending → World → Prop) (h : snew  w R) : Ca Try.prog 7 #[] w R :=
  Ca.of_fvc (c := bodyOf Try.f7) (by kernel_rfl) Try.func7 (by kernel_rfl) [] (Eq.mp (by kernel_rfl) h)

def sset (b1 : Nat) (n2 : Int) (n3 : Int) (n4 : Int) (s5 : ByteArray) (n6 : Int) (n7 : Int) (w : World) (R : Ending → World → Prop) : Prop :=
 LetA (Obj.cells #[Value.pointer (some { block := b1, off := (0 : Nat) })] (24 : Nat)) w fun b8 w9 =>
 LetA (Obj.cells #[Value.int IntKind.i64 n2, Value.int IntKind.i64 n3, Value.int IntKind.i64 n4, Value.string s5, Value.int IntKind.i64 n6, Value.int IntKind.i64 n7] (29 : Nat)) w9 fun b10 w11 =>
 ∃ p12 : Option Addr,
 (
  w11.cell? { block := b8, off := (0 : Nat) } = some (Value.pointer p12)) ∧
 Br (p12.isNone)
  (
   R (Ending.returned (Value.bool false)) w11)
  (
   ∃ p13 : Option Addr,
   (
    w11.cell? { block := b8, off := (0 : Nat) } = some (Value.pointer p13)) ∧
   NilOk p13 fun a14 =>
   ∃ b15 : Bool,
   (
    w11.cell? a14 = some (Value.bool b15)) ∧
   Br (!b15)
    (
     R (Ending.returned (Value.bool false)) w11)
    (
     ∃ n16 : Int,
     (
      w11.cell? { block := b10, off := (0 : Nat) } = some (Value.int IntKind.i64 n16)) ∧
     Br (decide (n16 ≤ (0 : Int)))
      (
       R (Ending.returned (Value.bool false)) w11)
      (
       ∃ n17 : Int,
       (
        w11.cell? { block := b10, off := (0 : Nat) } = some (Value.int IntKind.i64 n17)) ∧
       Br (decide (n17 > (3 : Int)))
        (
         R (Ending.returned (Value.bool false)) w11)
        (
         LetA (Obj.cells #[Value.bool false] (4 : Nat)) w11 fun b18 w19 =>
         (
          Wr w19 { block := b18, off := (0 : Nat) }) ∧
         LetW (w19.setCell { block := b18, off := (0 : Nat) } (Value.bool false)) fun w20 =>
         ∃ p21 : Option Addr,
         (
          w20.cell? { block := b8, off := (0 : Nat) } = some (Value.pointer p21)) ∧
         NilOk p21 fun a22 =>
         Ca Try.prog (12 : Nat) #[Value.pointer (some (a22.add (1 : Nat))), Value.func (Fn.func (13 : Nat)) #[] #[Value.pointer (some { block := b10, off := (0 : Nat) }), Value.pointer (some { block := b8, off := (0 : Nat) }), Value.pointer (some { block := b18, off := (0 : Nat) })]] w20 fun e23 w24 =>
         (
          e23 = Ending.returned (Value.tuple #[])) ∧
         ∃ b25 : Bool,
         (
          w24.cell? { block := b18, off := (0 : Nat) } = some (Value.bool b25)) ∧
         R (Ending.returned (Value.bool b25)) w24))))
theorem sset_ok (b1 : Nat) (n2 : Int) (n3 : Int) (n4 : Int) (s5 : ByteArray) (n6 : Int) (n7 : Int) (w : World) (R : Ending → World → Prop) (h : sset b1 n2 n3 n4 s5 n6 n7 w R) : Ca Try.prog 10 #[Value.pointer (some { block := b1, off := (0 : Nat) }), Value.agg #[Value.int IntKind.i64 n2, Value.int IntKind.i64 n3, Value.int IntKind.i64 n4, Value.string s5, Value.int IntKind.i64 n6, Value.int IntKind.i64 n7]] w R :=
  Ca.of_fvc (c := bodyOf Try.f10) (by kernel_rfl) Try.func10 (by kernel_rfl) [] (Eq.mp (by kernel_rfl) h)

def sset0 (n1 : Int) (n2 : Int) (n3 : Int) (s4 : ByteArray) (n5 : Int) (n6 : Int) (w : World) (R : Ending → World → Prop) : Prop :=
 LetA (Obj.cells #[Value.pointer none] (24 : Nat)) w fun b7 w8 =>
 LetA (Obj.cells #[Value.int IntKind.i64 n1, Value.int IntKind.i64 n2, Value.int IntKind.i64 n3, Value.string s4, Value.int IntKind.i64 n5, Value.int IntKind.i64 n6] (29 : Nat)) w8 fun b9 w10 =>
 ∃ p11 : Option Addr,
 (
  w10.cell? { block := b7, off := (0 : Nat) } = some (Value.pointer p11)) ∧
 Br (p11.isNone)
  (
   R (Ending.returned (Value.bool false)) w10)
  (
   ∃ p12 : Option Addr,
   (
    w10.cell? { block := b7, off := (0 : Nat) } = some (Value.pointer p12)) ∧
   NilOk p12 fun a13 =>
   ∃ b14 : Bool,
   (
    w10.cell? a13 = some (Value.bool b14)) ∧
   Br (!b14)
    (
     R (Ending.returned (Value.bool false)) w10)
    (
     ∃ n15 : Int,
     (
      w10.cell? { block := b9, off := (0 : Nat) } = some (Value.int IntKind.i64 n15)) ∧
     Br (decide (n15 ≤ (0 : Int)))
      (
       R (Ending.returned (Value.bool false)) w10)
      (
       ∃ n16 : Int,
       (
        w10.cell? { block := b9, off := (0 : Nat) } = some (Value.int IntKind.i64 n16)) ∧
       Br (decide (n16 > (3 : Int)))
        (
         R (Ending.returned (Value.bool false)) w10)
        (
         LetA (Obj.cells #[Value.bool false] (4 : Nat)) w10 fun b17 w18 =>
         (
          Wr w18 { block := b17, off := (0 : Nat) }) ∧
         LetW (w18.setCell { block := b17, off := (0 : Nat) } (Value.bool false)) fun w19 =>
         ∃ p20 : Option Addr,
         (
          w19.cell? { block := b7, off := (0 : Nat) } = some (Value.pointer p20)) ∧
         NilOk p20 fun a21 =>
         Ca Try.prog (12 : Nat) #[Value.pointer (some (a21.add (1 : Nat))), Value.func (Fn.func (13 : Nat)) #[] #[Value.pointer (some { block := b9, off := (0 : Nat) }), Value.pointer (some { block := b7, off := (0 : Nat) }), Value.pointer (some { block := b17, off := (0 : Nat) })]] w19 fun e22 w23 =>
         (
          e22 = Ending.returned (Value.tuple #[])) ∧
         ∃ b24 : Bool,
         (
          w23.cell? { block := b17, off := (0 : Nat) } = some (Value.bool b24)) ∧
         R (Ending.returned (Value.bool b24)) w23))))
theorem sset0_ok (n1 : Int) (n2 : Int) (n3 : Int) (s4 : ByteArray) (n5 : Int) (n6 : Int) (w : World) (R : Ending → World → Prop) (h : sset0 n1 n2 n3 s4 n5 n6 w R) : Ca Try.prog 10 #[Value.pointer none, Value.agg #[Value.int IntKind.i64 n1, Value.int IntKind.i64 n2, Value.int IntKind.i64 n3, Value.string s4, Value.int IntKind.i64 n5, Value.int IntKind.i64 n6]] w R :=
  Ca.of_fvc (c := bodyOf Try.f10) (by kernel_rfl) Try.func10 (by kernel_rfl) [] (Eq.mp (by kernel_rfl) h)

def sget (b1 : Nat) (w : World) (R : Ending → World → Prop) : Prop :=
 LetA (Obj.cells #[Value.int IntKind.i64 (0 : Int), Value.int IntKind.i64 (0 : Int), Value.int IntKind.i64 (0 : Int), Value.string { data := #[] }, Value.int IntKind.i64 (0 : Int), Value.int IntKind.i64 (0 : Int)] (29 : Nat)) w fun b2 w3 =>
 ∃ b4 : Bool,
 (
  w3.cell? { block := b1, off := (4 : Nat) } = some (Value.bool b4)) ∧
 Br (!b4)
  (
   (
    WrRow w3 { block := b2, off := (0 : Nat) } (0 : Nat) [Value.int IntKind.i64 (0 : Int), Value.int IntKind.i64 (0 : Int), Value.int IntKind.i64 (0 : Int), Value.string { data := #[] }, Value.int IntKind.i64 (0 : Int), Value.int IntKind.i64 (0 : Int)]) ∧
   LetW (setRow w3 { block := b2, off := (0 : Nat) } (0 : Nat) [Value.int IntKind.i64 (0 : Int), Value.int IntKind.i64 (0 : Int), Value.int IntKind.i64 (0 : Int), Value.string { data := #[] }, Value.int IntKind.i64 (0 : Int), Value.int IntKind.i64 (0 : Int)]) fun w5 =>
   ∃ n6 : Int,
   ∃ n7 : Int,
   ∃ n8 : Int,
   ∃ s9 : ByteArray,
   ∃ n10 : Int,
   ∃ n11 : Int,
   (
    Row w5 { block := b2, off := (0 : Nat) } (0 : Nat) [Value.int IntKind.i64 n6, Value.int IntKind.i64 n7, Value.int IntKind.i64 n8, Value.string s9, Value.int IntKind.i64 n10, Value.int IntKind.i64 n11]) ∧
   R (Ending.returned (Value.tuple #[Value.agg #[Value.int IntKind.i64 n6, Value.int IntKind.i64 n7, Value.int IntKind.i64 n8, Value.string s9, Value.int IntKind.i64 n10, Value.int IntKind.i64 n11], Value.bool false])) w5)
  (
   ∃ n12 : Int,
   ∃ n13 : Int,
   ∃ n14 : Int,
   ∃ s15 : ByteArray,
   ∃ n16 : Int,
   ∃ n17 : Int,
   (
    Row w3 { block := b1, off := (5 : Nat) } (0 : Nat) [Value.int IntKind.i64 n12, Value.int IntKind.i64 n13, Value.int IntKind.i64 n14, Value.string s15, Value.int IntKind.i64 n16, Value.int IntKind.i64 n17]) ∧
   (
    WrRow w3 { block := b2, off := (0 : Nat) } (0 : Nat) [Value.int IntKind.i64 n12, Value.int IntKind.i64 n13, Value.int IntKind.i64 n14, Value.string s15, Value.int IntKind.i64 n16, Value.int IntKind.i64 n17]) ∧
   LetW (setRow w3 { block := b2, off := (0 : Nat) } (0 : Nat) [Value.int IntKind.i64 n12, Value.int IntKind.i64 n13, Value.int IntKind.i64 n14, Value.string s15, Value.int IntKind.i64 n16, Value.int IntKind.i64 n17]) fun w18 =>
   ∃ n19 : Int,
   ∃ n20 : Int,
   ∃ n21 : Int,
   ∃ s22 : ByteArray,
   ∃ n23 : Int,
   ∃ n24 : Int,
   (
    Row w18 { block := b2, off := (0 : Nat) } (0 : Nat) [Value.int IntKind.i64 n19, Value.int IntKind.i64 n20, Value.int IntKind.i64 n21, Value.string s22, Value.int IntKind.i64 n23, Value.int IntKind.i64 n24]) ∧
   R (Ending.returned (Value.tuple #[Value.agg #[Value.int IntKind.i64 n19, Value.int IntKind.i64 n20, Value.int IntKind.i64 n21, Value.string s22, Value.int IntKind.i64 n23, Value.int IntKind.i64 n24], Value.bool true])) w18)
theorem sget_ok (b1 : Nat) (w : World) (R : Ending → World → Prop) (h : sget b1 w R) : Ca Try.prog 11 #[Value.pointer (some { block := b1, off := (0 : Nat) })] w R :=
  Ca.of_fvc (c := bodyOf Try.f11) (by kernel_rfl) Try.func11 (by kernel_rfl) [] (Eq.mp (by kernel_rfl) h)

def sget0 (w : World) (R : Ending → World → Prop) : Prop :=
 LetA (Obj.cells #[Value.int IntKind.i64 (0 : Int), Value.int IntKind.i64 (0 : Int), Value.int IntKind.i64 (0 : Int), Value.string { data := #[] }, Value.int IntKind.i64 (0 : Int), Value.int IntKind.i64 (0 : Int)] (29 : Nat)) w fun b1 w2 =>
 (
  WrRow w2 { block := b1, off := (0 : Nat) } (0 : Nat) [Value.int IntKind.i64 (0 : Int), Value.int IntKind.i64 (0 : Int), Value.int IntKind.i64 (0 : Int), Value.string { data := #[] }, Value.int IntKind.i64 (0 : Int), Value.int IntKind.i64 (0 : Int)]) ∧
 LetW (setRow w2 { block := b1, off := (0 : Nat) } (0 : Nat) [Value.int IntKind.i64 (0 : Int), Value.int IntKind.i64 (0 : Int), Value.int IntKind.i64 (0 : Int), Value.string { data := #[] }, Value.int IntKind.i64 (0 : Int), Value.int IntKind.i64 (0 : Int)]) fun w3 =>
 ∃ n4 : Int,
 ∃ n5 : Int,
 ∃ n6 : Int,
 ∃ s7 : ByteArray,
 ∃ n8 : Int,
 ∃ n9 : Int,
 (
  Row w3 { block := b1, off := (0 : Nat) } (0 : Nat) [Value.int IntKind.i64 n4, Value.int IntKind.i64 n5, Value.int IntKind.i64 n6, Value.string s7, Value.int IntKind.i64 n8, Value.int IntKind.i64 n9]) ∧
 R (Ending.returned (Value.tuple #[Value.agg #[Value.int IntKind.i64 n4, Value.int IntKind.i64 n5, Value.int IntKind.i64 n6, Value.string s7, Value.int IntKind.i64 n8, Value.int IntKind.i64 n9], Value.bool false])) w3
theorem sget0_ok (w : World) (R : Ending → World → Prop) (h : sget0  w R) : Ca Try.prog 11 #[Value.pointer none] w R :=
  Ca.of_fvc (c := bodyOf Try.f11) (by kernel_rfl) Try.func11 (by kernel_rfl) [] (Eq.mp (by kernel_rfl) h)

def sin (b1 : Nat) (b2 : Nat) (b3 : Nat) (w : World) (R : Ending → World → Prop) : Prop :=
 ∃ p4 : Option Addr,
 (
  w.cell? { block := b2, off := (0 : Nat) } = some (Value.pointer p4)) ∧
 ∃ p5 : Option Addr,
 (
  w.cell? { block := b2, off := (0 : Nat) } = some (Value.pointer p5)) ∧
 ∃ n6 : Int,
 ∃ n7 : Int,
 ∃ n8 : Int,
 ∃ s9 : ByteArray,
 ∃ n10 : Int,
 ∃ n11 : Int,
 (
  Row w { block := b1, off := (0 : Nat) } (0 : Nat) [Value.int IntKind.i64 n6, Value.int IntKind.i64 n7, Value.int IntKind.i64 n8, Value.string s9, Value.int IntKind.i64 n10, Value.int IntKind.i64 n11]) ∧
 NilOk p4 fun a12 =>
 (
  WrRow w (a12.add (5 : Nat)) (0 : Nat) [Value.int IntKind.i64 n6, Value.int IntKind.i64 n7, Value.int IntKind.i64 n8, Value.string s9, Value.int IntKind.i64 n10, Value.int IntKind.i64 n11]) ∧
 LetW (setRow w (a12.add (5 : Nat)) (0 : Nat) [Value.int IntKind.i64 n6, Value.int IntKind.i64 n7, Value.int IntKind.i64 n8, Value.string s9, Value.int IntKind.i64 n10, Value.int IntKind.i64 n11]) fun w13 =>
 (
  w13.cell? { block := b2, off := (0 : Nat) } = some (Value.pointer p5)) ∧
 NilOk p5 fun a14 =>
 (
  Wr w13 (a14.add (4 : Nat))) ∧
 LetW (w13.setCell (a14.add (4 : Nat)) (Value.bool true)) fun w15 =>
 (
  Wr w15 { block := b3, off := (0 : Nat) }) ∧
 LetW (w15.setCell { block := b3, off := (0 : Nat) } (Value.bool true)) fun w16 =>
 R (Ending.returned (Value.tuple #[])) w16
theorem sin_ok (b1 : Nat) (b2 : Nat) (b3 : Nat) (w : World) (R : Ending → World → Prop) (h : sin b1 b2 b3 w R) : Ca Try.prog 13 #[Value.pointer (some { block := b1, off := (0 : Nat) }), Value.pointer (some { block := b2, off := (0 : Nat) }), Value.pointer (some { block := b3, off := (0 : Nat) })] w R :=
  Ca.of_fvc (c := bodyOf Try.f13) (by kernel_rfl) Try.func13 (by kernel_rfl) [] (Eq.mp (by kernel_rfl) h)

def rfirst (p1 : Option Addr) (k2 : Nat) (_k3 : Nat) (w : World) (R : Ending → World → Prop) : Prop :=
 LetA (Obj.cells #[Value.int IntKind.i64 (0 : Int), Value.int IntKind.i64 (0 : Int), Value.int IntKind.i64 (0 : Int), Value.string { data := #[] }, Value.int IntKind.i64 (0 : Int), Value.int IntKind.i64 (0 : Int)] (29 : Nat)) w fun b4 w5 =>
 ∃ I6 : Nat → List Value → World → Prop,
 (
  ∃ k7 : Nat,
  I6 k7 [Value.bool false, Value.int IntKind.i64 (0 : Int)] w5) ∧
 ∀ b8 : Bool,
 ∀ n9 : Int,
 ∀ k10 : Nat,
 ∀ w11 : World,
 (
  I6 k10 [Value.bool b8, Value.int IntKind.i64 n9] w11) →
 Br (decide (n9 < (↑k2 : Int)))
  (
   NilOk p1 fun a12 =>
   (
    (
     (0 : Int) ≤ n9) ∧
    n9 < (↑k2 : Int)) ∧
   ∃ n13 : Int,
   (
    w11.cell? (a12.add (n9.toNat * (6 : Nat))) = some (Value.int IntKind.i64 n13)) ∧
   Br (decide (n13 ≥ (1 : Int)))
    (
     NilOk p1 fun a14 =>
     (
      (
       (0 : Int) ≤ n9) ∧
      n9 < (↑k2 : Int)) ∧
     ∃ n15 : Int,
     (
      w11.cell? (a14.add (n9.toNat * (6 : Nat))) = some (Value.int IntKind.i64 n15)) ∧
     Br (decide (n15 ≤ (3 : Int)))
      (
       NilOk p1 fun a16 =>
       (
        (
         (0 : Int) ≤ n9) ∧
        n9 < (↑k2 : Int)) ∧
       ∃ n17 : Int,
       ∃ n18 : Int,
       ∃ n19 : Int,
       ∃ s20 : ByteArray,
       ∃ n21 : Int,
       ∃ n22 : Int,
       (
        Row w11 (a16.add (n9.toNat * (6 : Nat))) (0 : Nat) [Value.int IntKind.i64 n17, Value.int IntKind.i64 n18, Value.int IntKind.i64 n19, Value.string s20, Value.int IntKind.i64 n21, Value.int IntKind.i64 n22]) ∧
       (
        WrRow w11 { block := b4, off := (0 : Nat) } (0 : Nat) [Value.int IntKind.i64 n17, Value.int IntKind.i64 n18, Value.int IntKind.i64 n19, Value.string s20, Value.int IntKind.i64 n21, Value.int IntKind.i64 n22]) ∧
       LetW (setRow w11 { block := b4, off := (0 : Nat) } (0 : Nat) [Value.int IntKind.i64 n17, Value.int IntKind.i64 n18, Value.int IntKind.i64 n19, Value.string s20, Value.int IntKind.i64 n21, Value.int IntKind.i64 n22]) fun w23 =>
       ∃ n24 : Int,
       ∃ n25 : Int,
       ∃ n26 : Int,
       ∃ s27 : ByteArray,
       ∃ n28 : Int,
       ∃ n29 : Int,
       (
        Row w23 { block := b4, off := (0 : Nat) } (0 : Nat) [Value.int IntKind.i64 n24, Value.int IntKind.i64 n25, Value.int IntKind.i64 n26, Value.string s27, Value.int IntKind.i64 n28, Value.int IntKind.i64 n29]) ∧
       R (Ending.returned (Value.tuple #[Value.agg #[Value.int IntKind.i64 n24, Value.int IntKind.i64 n25, Value.int IntKind.i64 n26, Value.string s27, Value.int IntKind.i64 n28, Value.int IntKind.i64 n29], Value.bool true])) w23)
      (
       LetI (IntKind.i64.wrap (n9 + (1 : Int))) fun n30 =>
       ∃ k31 : Nat,
       (
        k31 < k10) ∧
       I6 k31 [Value.bool b8, Value.int IntKind.i64 n30] w11))
    (
     LetI (IntKind.i64.wrap (n9 + (1 : Int))) fun n32 =>
     ∃ k33 : Nat,
     (
      k33 < k10) ∧
     I6 k33 [Value.bool b8, Value.int IntKind.i64 n32] w11))
  (
   (
    WrRow w11 { block := b4, off := (0 : Nat) } (0 : Nat) [Value.int IntKind.i64 (0 : Int), Value.int IntKind.i64 (0 : Int), Value.int IntKind.i64 (0 : Int), Value.string { data := #[] }, Value.int IntKind.i64 (0 : Int), Value.int IntKind.i64 (0 : Int)]) ∧
   LetW (setRow w11 { block := b4, off := (0 : Nat) } (0 : Nat) [Value.int IntKind.i64 (0 : Int), Value.int IntKind.i64 (0 : Int), Value.int IntKind.i64 (0 : Int), Value.string { data := #[] }, Value.int IntKind.i64 (0 : Int), Value.int IntKind.i64 (0 : Int)]) fun w34 =>
   ∃ n35 : Int,
   ∃ n36 : Int,
   ∃ n37 : Int,
   ∃ s38 : ByteArray,
   ∃ n39 : Int,
   ∃ n40 : Int,
   (
    Row w34 { block := b4, off := (0 : Nat) } (0 : Nat) [Value.int IntKind.i64 n35, Value.int IntKind.i64 n36, Value.int IntKind.i64 n37, Value.string s38, Value.int IntKind.i64 n39, Value.int IntKind.i64 n40]) ∧
   R (Ending.returned (Value.tuple #[Value.agg #[Value.int IntKind.i64 n35, Value.int IntKind.i64 n36, Value.int IntKind.i64 n37, Value.string s38, Value.int IntKind.i64 n39, Value.int IntKind.i64 n40], Value.bool false])) w34)
theorem rfirst_ok (p1 : Option Addr) (k2 : Nat) (k3 : Nat) (w : World) (R : Ending → World → Prop) (h : rfirst p1 k2 k3 w R) : Ca Try.prog 8 #[Value.slice p1 k2 k3] w R :=
  Ca.of_fvc (c := bodyOf Try.f8) (by kernel_rfl) Try.func8 (by kernel_rfl) [] (Eq.mp (by kernel_rfl) h)

def same (b1 : Nat) (n2 : Int) (n3 : Int) (n4 : Int) (s5 : ByteArray) (n6 : Int) (n7 : Int) (b8 : Bool) (w : World) (R : Ending → World → Prop) : Prop :=
 LetA (Obj.cells #[Value.int IntKind.i64 n2, Value.int IntKind.i64 n3, Value.int IntKind.i64 n4, Value.string s5, Value.int IntKind.i64 n6, Value.int IntKind.i64 n7] (29 : Nat)) w fun b9 w10 =>
 Ca Try.prog (11 : Nat) #[Value.pointer (some { block := b1, off := (0 : Nat) })] w10 fun e11 w12 =>
 ∃ n13 : Int,
 ∃ n14 : Int,
 ∃ n15 : Int,
 ∃ s16 : ByteArray,
 ∃ n17 : Int,
 ∃ n18 : Int,
 ∃ b19 : Bool,
 (
  e11 = Ending.returned (Value.tuple #[Value.agg #[Value.int IntKind.i64 n13, Value.int IntKind.i64 n14, Value.int IntKind.i64 n15, Value.string s16, Value.int IntKind.i64 n17, Value.int IntKind.i64 n18], Value.bool b19])) ∧
 LetA (Obj.cells #[Value.int IntKind.i64 (0 : Int), Value.int IntKind.i64 (0 : Int), Value.int IntKind.i64 (0 : Int), Value.string { data := #[] }, Value.int IntKind.i64 (0 : Int), Value.int IntKind.i64 (0 : Int)] (29 : Nat)) w12 fun b20 w21 =>
 (
  WrRow w21 { block := b20, off := (0 : Nat) } (0 : Nat) [Value.int IntKind.i64 n13, Value.int IntKind.i64 n14, Value.int IntKind.i64 n15, Value.string s16, Value.int IntKind.i64 n17, Value.int IntKind.i64 n18]) ∧
 LetW (setRow w21 { block := b20, off := (0 : Nat) } (0 : Nat) [Value.int IntKind.i64 n13, Value.int IntKind.i64 n14, Value.int IntKind.i64 n15, Value.string s16, Value.int IntKind.i64 n17, Value.int IntKind.i64 n18]) fun w22 =>
 ∃ n23 : Int,
 ∃ n24 : Int,
 ∃ n25 : Int,
 ∃ s26 : ByteArray,
 ∃ n27 : Int,
 ∃ n28 : Int,
 (
  Row w22 { block := b20, off := (0 : Nat) } (0 : Nat) [Value.int IntKind.i64 n23, Value.int IntKind.i64 n24, Value.int IntKind.i64 n25, Value.string s26, Value.int IntKind.i64 n27, Value.int IntKind.i64 n28]) ∧
 ∃ n29 : Int,
 ∃ n30 : Int,
 ∃ n31 : Int,
 ∃ s32 : ByteArray,
 ∃ n33 : Int,
 ∃ n34 : Int,
 (
  Row w22 { block := b9, off := (0 : Nat) } (0 : Nat) [Value.int IntKind.i64 n29, Value.int IntKind.i64 n30, Value.int IntKind.i64 n31, Value.string s32, Value.int IntKind.i64 n33, Value.int IntKind.i64 n34]) ∧
 Br (n23 == n29 && (n24 == n30 && (n25 == n31 && (s26.toList == s32.toList && (n27 == n33 && (n28 == n34 && true))) && true)))
  (
   R (Ending.returned (Value.bool (b19 == b8))) w22)
  (
   R (Ending.returned (Value.bool false)) w22)
theorem same_ok (b1 : Nat) (n2 : Int) (n3 : Int) (n4 : Int) (s5 : ByteArray) (n6 : Int) (n7 : Int) (b8 : Bool) (w : World) (R : Ending → World → Prop) (h : same b1 n2 n3 n4 s5 n6 n7 b8 w R) : Ca Try.prog 9 #[Value.pointer (some { block := b1, off := (0 : Nat) }), Value.agg #[Value.int IntKind.i64 n2, Value.int IntKind.i64 n3, Value.int IntKind.i64 n4, Value.string s5, Value.int IntKind.i64 n6, Value.int IntKind.i64 n7], Value.bool b8] w R :=
  Ca.of_fvc (c := bodyOf Try.f9) (by kernel_rfl) Try.func9 (by kernel_rfl) [] (Eq.mp (by kernel_rfl) h)

def same0 (n1 : Int) (n2 : Int) (n3 : Int) (s4 : ByteArray) (n5 : Int) (n6 : Int) (b7 : Bool) (w : World) (R : Ending → World → Prop) : Prop :=
 LetA (Obj.cells #[Value.int IntKind.i64 n1, Value.int IntKind.i64 n2, Value.int IntKind.i64 n3, Value.string s4, Value.int IntKind.i64 n5, Value.int IntKind.i64 n6] (29 : Nat)) w fun b8 w9 =>
 Ca Try.prog (11 : Nat) #[Value.pointer none] w9 fun e10 w11 =>
 ∃ n12 : Int,
 ∃ n13 : Int,
 ∃ n14 : Int,
 ∃ s15 : ByteArray,
 ∃ n16 : Int,
 ∃ n17 : Int,
 ∃ b18 : Bool,
 (
  e10 = Ending.returned (Value.tuple #[Value.agg #[Value.int IntKind.i64 n12, Value.int IntKind.i64 n13, Value.int IntKind.i64 n14, Value.string s15, Value.int IntKind.i64 n16, Value.int IntKind.i64 n17], Value.bool b18])) ∧
 LetA (Obj.cells #[Value.int IntKind.i64 (0 : Int), Value.int IntKind.i64 (0 : Int), Value.int IntKind.i64 (0 : Int), Value.string { data := #[] }, Value.int IntKind.i64 (0 : Int), Value.int IntKind.i64 (0 : Int)] (29 : Nat)) w11 fun b19 w20 =>
 (
  WrRow w20 { block := b19, off := (0 : Nat) } (0 : Nat) [Value.int IntKind.i64 n12, Value.int IntKind.i64 n13, Value.int IntKind.i64 n14, Value.string s15, Value.int IntKind.i64 n16, Value.int IntKind.i64 n17]) ∧
 LetW (setRow w20 { block := b19, off := (0 : Nat) } (0 : Nat) [Value.int IntKind.i64 n12, Value.int IntKind.i64 n13, Value.int IntKind.i64 n14, Value.string s15, Value.int IntKind.i64 n16, Value.int IntKind.i64 n17]) fun w21 =>
 ∃ n22 : Int,
 ∃ n23 : Int,
 ∃ n24 : Int,
 ∃ s25 : ByteArray,
 ∃ n26 : Int,
 ∃ n27 : Int,
 (
  Row w21 { block := b19, off := (0 : Nat) } (0 : Nat) [Value.int IntKind.i64 n22, Value.int IntKind.i64 n23, Value.int IntKind.i64 n24, Value.string s25, Value.int IntKind.i64 n26, Value.int IntKind.i64 n27]) ∧
 ∃ n28 : Int,
 ∃ n29 : Int,
 ∃ n30 : Int,
 ∃ s31 : ByteArray,
 ∃ n32 : Int,
 ∃ n33 : Int,
 (
  Row w21 { block := b8, off := (0 : Nat) } (0 : Nat) [Value.int IntKind.i64 n28, Value.int IntKind.i64 n29, Value.int IntKind.i64 n30, Value.string s31, Value.int IntKind.i64 n32, Value.int IntKind.i64 n33]) ∧
 Br (n22 == n28 && (n23 == n29 && (n24 == n30 && (s25.toList == s31.toList && (n26 == n32 && (n27 == n33 && true))) && true)))
  (
   R (Ending.returned (Value.bool (b18 == b7))) w21)
  (
   R (Ending.returned (Value.bool false)) w21)
theorem same0_ok (n1 : Int) (n2 : Int) (n3 : Int) (s4 : ByteArray) (n5 : Int) (n6 : Int) (b7 : Bool) (w : World) (R : Ending → World → Prop) (h : same0 n1 n2 n3 s4 n5 n6 b7 w R) : Ca Try.prog 9 #[Value.pointer none, Value.agg #[Value.int IntKind.i64 n1, Value.int IntKind.i64 n2, Value.int IntKind.i64 n3, Value.string s4, Value.int IntKind.i64 n5, Value.int IntKind.i64 n6], Value.bool b7] w R :=
  Ca.of_fvc (c := bodyOf Try.f9) (by kernel_rfl) Try.func9 (by kernel_rfl) [] (Eq.mp (by kernel_rfl) h)

def once (w : World) (R : Ending → World → Prop) : Prop :=
 Ca Try.prog (7 : Nat) #[] w fun e1 w2 =>
 ∃ p3 : Option Addr,
 (
  e1 = Ending.returned (Value.pointer p3)) ∧
 Ca Try.prog (11 : Nat) #[Value.pointer p3] w2 fun e4 w5 =>
 ∃ n6 : Int,
 ∃ n7 : Int,
 ∃ n8 : Int,
 ∃ s9 : ByteArray,
 ∃ n10 : Int,
 ∃ n11 : Int,
 ∃ b12 : Bool,
 (
  e4 = Ending.returned (Value.tuple #[Value.agg #[Value.int IntKind.i64 n6, Value.int IntKind.i64 n7, Value.int IntKind.i64 n8, Value.string s9, Value.int IntKind.i64 n10, Value.int IntKind.i64 n11], Value.bool b12])) ∧
 LetA (Obj.cells #[Value.int IntKind.i64 (0 : Int), Value.int IntKind.i64 (0 : Int), Value.int IntKind.i64 (0 : Int), Value.string { data := #[] }, Value.int IntKind.i64 (0 : Int), Value.int IntKind.i64 (0 : Int)] (29 : Nat)) w5 fun b13 w14 =>
 (
  WrRow w14 { block := b13, off := (0 : Nat) } (0 : Nat) [Value.int IntKind.i64 n6, Value.int IntKind.i64 n7, Value.int IntKind.i64 n8, Value.string s9, Value.int IntKind.i64 n10, Value.int IntKind.i64 n11]) ∧
 LetW (setRow w14 { block := b13, off := (0 : Nat) } (0 : Nat) [Value.int IntKind.i64 n6, Value.int IntKind.i64 n7, Value.int IntKind.i64 n8, Value.string s9, Value.int IntKind.i64 n10, Value.int IntKind.i64 n11]) fun w15 =>
 Ca Try.prog (10 : Nat) #[Value.pointer p3, Value.agg #[Value.int IntKind.i64 (0 : Int), Value.int IntKind.i64 (0 : Int), Value.int IntKind.i64 (0 : Int), Value.string { data := #[] }, Value.int IntKind.i64 (0 : Int), Value.int IntKind.i64 (0 : Int)]] w15 fun e16 w17 =>
 ∃ b18 : Bool,
 (
  e16 = Ending.returned (Value.bool b18)) ∧
 Ca Try.prog (10 : Nat) #[Value.pointer p3, Value.agg #[Value.int IntKind.i64 (3 : Int), Value.int IntKind.i64 (0 : Int), Value.int IntKind.i64 (0 : Int), Value.string { data := #[] }, Value.int IntKind.i64 (0 : Int), Value.int IntKind.i64 (0 : Int)]] w17 fun e19 w20 =>
 ∃ b21 : Bool,
 (
  e19 = Ending.returned (Value.bool b21)) ∧
 Ca Try.prog (10 : Nat) #[Value.pointer p3, Value.agg #[Value.int IntKind.i64 (1 : Int), Value.int IntKind.i64 (0 : Int), Value.int IntKind.i64 (0 : Int), Value.string { data := #[] }, Value.int IntKind.i64 (0 : Int), Value.int IntKind.i64 (0 : Int)]] w20 fun e22 w23 =>
 ∃ b24 : Bool,
 (
  e22 = Ending.returned (Value.bool b24)) ∧
 Ca Try.prog (11 : Nat) #[Value.pointer p3] w23 fun e25 w26 =>
 ∃ n27 : Int,
 ∃ n28 : Int,
 ∃ n29 : Int,
 ∃ s30 : ByteArray,
 ∃ n31 : Int,
 ∃ n32 : Int,
 ∃ b33 : Bool,
 (
  e25 = Ending.returned (Value.tuple #[Value.agg #[Value.int IntKind.i64 n27, Value.int IntKind.i64 n28, Value.int IntKind.i64 n29, Value.string s30, Value.int IntKind.i64 n31, Value.int IntKind.i64 n32], Value.bool b33])) ∧
 LetA (Obj.cells #[Value.int IntKind.i64 (0 : Int), Value.int IntKind.i64 (0 : Int), Value.int IntKind.i64 (0 : Int), Value.string { data := #[] }, Value.int IntKind.i64 (0 : Int), Value.int IntKind.i64 (0 : Int)] (29 : Nat)) w26 fun b34 w35 =>
 (
  WrRow w35 { block := b34, off := (0 : Nat) } (0 : Nat) [Value.int IntKind.i64 n27, Value.int IntKind.i64 n28, Value.int IntKind.i64 n29, Value.string s30, Value.int IntKind.i64 n31, Value.int IntKind.i64 n32]) ∧
 LetW (setRow w35 { block := b34, off := (0 : Nat) } (0 : Nat) [Value.int IntKind.i64 n27, Value.int IntKind.i64 n28, Value.int IntKind.i64 n29, Value.string s30, Value.int IntKind.i64 n31, Value.int IntKind.i64 n32]) fun w36 =>
 Br (!b12)
  (
   Br (!b18)
    (
     Br (b21)
      (
       Br (!b24)
        (
         ∃ n37 : Int,
         (
          w36.cell? { block := b34, off := (0 : Nat) } = some (Value.int IntKind.i64 n37)) ∧
         Br (n37 == (3 : Int))
          (
           R (Ending.returned (Value.bool b33)) w36)
          (
           R (Ending.returned (Value.bool false)) w36))
        (
         R (Ending.returned (Value.bool false)) w36))
      (
       R (Ending.returned (Value.bool false)) w36))
    (
     R (Ending.returned (Value.bool false)) w36))
  (
   R (Ending.returned (Value.bool false)) w36)
theorem once_ok (w : World) (R : Ending → World → Prop) (h : once  w R) : Ca Try.prog 6 #[] w R :=
  Ca.of_fvc (c := bodyOf Try.f6) (by kernel_rfl) Try.func6 (by kernel_rfl) [] (Eq.mp (by kernel_rfl) h)

def lawSet (p1 : Option Addr) (k2 : Nat) (k3 : Nat) (w : World) (R : Ending → World → Prop) : Prop :=
 Br (decide ((↑k2 : Int) > (60 : Int)))
  (
   Ca Try.prog (6 : Nat) #[] w fun e4 w5 =>
   ∃ b6 : Bool,
   (
    e4 = Ending.returned (Value.bool b6)) ∧
   R (Ending.returned (Value.bool b6)) w5)
  (
   Ca Try.prog (7 : Nat) #[] w fun e7 w8 =>
   ∃ p9 : Option Addr,
   (
    e7 = Ending.returned (Value.pointer p9)) ∧
   ∃ I10 : Nat → List Value → World → Prop,
   (
    ∃ k11 : Nat,
    I10 k11 [Value.bool false, Value.int IntKind.i64 (0 : Int)] w8) ∧
   ∀ b12 : Bool,
   ∀ n13 : Int,
   ∀ k14 : Nat,
   ∀ w15 : World,
   (
    I10 k14 [Value.bool b12, Value.int IntKind.i64 n13] w15) →
   Br (decide (n13 ≤ (↑k2 : Int)))
    (
     (
      (
       (0 : Int) ≤ (0 : Int)) ∧
      (
       (0 : Int) ≤ n13) ∧
      (
       n13 ≤ (↑k3 : Int)) ∧
      (
       (↑k3 : Int) ≤ (↑k3 : Int)) ∧
      (
       (
        false = true) →
       true = true)) ∧
     Ca Try.prog (8 : Nat) #[Value.slice (if (↑k3 : Int).toNat = Int.toNat (0 : Int) then p1 else Option.map (fun x => x.add (Int.toNat (0 : Int) * sizeT Try.prog (29 : Nat))) p1) (n13.toNat - (0 : Nat)) ((↑k3 : Int).toNat - (0 : Nat))] w15 fun e16 w17 =>
     ∃ n18 : Int,
     ∃ n19 : Int,
     ∃ n20 : Int,
     ∃ s21 : ByteArray,
     ∃ n22 : Int,
     ∃ n23 : Int,
     ∃ b24 : Bool,
     (
      e16 = Ending.returned (Value.tuple #[Value.agg #[Value.int IntKind.i64 n18, Value.int IntKind.i64 n19, Value.int IntKind.i64 n20, Value.string s21, Value.int IntKind.i64 n22, Value.int IntKind.i64 n23], Value.bool b24])) ∧
     LetA (Obj.cells #[Value.int IntKind.i64 (0 : Int), Value.int IntKind.i64 (0 : Int), Value.int IntKind.i64 (0 : Int), Value.string { data := #[] }, Value.int IntKind.i64 (0 : Int), Value.int IntKind.i64 (0 : Int)] (29 : Nat)) w17 fun b25 w26 =>
     (
      WrRow w26 { block := b25, off := (0 : Nat) } (0 : Nat) [Value.int IntKind.i64 n18, Value.int IntKind.i64 n19, Value.int IntKind.i64 n20, Value.string s21, Value.int IntKind.i64 n22, Value.int IntKind.i64 n23]) ∧
     LetW (setRow w26 { block := b25, off := (0 : Nat) } (0 : Nat) [Value.int IntKind.i64 n18, Value.int IntKind.i64 n19, Value.int IntKind.i64 n20, Value.string s21, Value.int IntKind.i64 n22, Value.int IntKind.i64 n23]) fun w27 =>
     ∃ n28 : Int,
     ∃ n29 : Int,
     ∃ n30 : Int,
     ∃ s31 : ByteArray,
     ∃ n32 : Int,
     ∃ n33 : Int,
     (
      Row w27 { block := b25, off := (0 : Nat) } (0 : Nat) [Value.int IntKind.i64 n28, Value.int IntKind.i64 n29, Value.int IntKind.i64 n30, Value.string s31, Value.int IntKind.i64 n32, Value.int IntKind.i64 n33]) ∧
     Ca Try.prog (9 : Nat) #[Value.pointer p9, Value.agg #[Value.int IntKind.i64 n28, Value.int IntKind.i64 n29, Value.int IntKind.i64 n30, Value.string s31, Value.int IntKind.i64 n32, Value.int IntKind.i64 n33], Value.bool b24] w27 fun e34 w35 =>
     ∃ b36 : Bool,
     (
      e34 = Ending.returned (Value.bool b36)) ∧
     Br (!b36)
      (
       R (Ending.returned (Value.bool false)) w35)
      (
       Br (n13 == (↑k2 : Int))
        (
         Ca Try.prog (6 : Nat) #[] w35 fun e37 w38 =>
         ∃ b39 : Bool,
         (
          e37 = Ending.returned (Value.bool b39)) ∧
         R (Ending.returned (Value.bool b39)) w38)
        (
         NilOk p1 fun a40 =>
         (
          (
           (0 : Int) ≤ n13) ∧
          n13 < (↑k2 : Int)) ∧
         ∃ s41 : ByteArray,
         (
          w35.cell? (((a40.add (n13.toNat * (6 : Nat))).add (2 : Nat)).add (1 : Nat)) = some (Value.string s41)) ∧
         Br (decide ((↑s41.size : Int) > (200 : Int)))
          (
           Ca Try.prog (6 : Nat) #[] w35 fun e42 w43 =>
           ∃ b44 : Bool,
           (
            e42 = Ending.returned (Value.bool b44)) ∧
           R (Ending.returned (Value.bool b44)) w43)
          (
           LetI (IntKind.i64.wrap (n13 + (1 : Int))) fun n45 =>
           (
            (
             (0 : Int) ≤ n13) ∧
            (
             n13 ≤ n45) ∧
            (
             n45 ≤ (↑k3 : Int)) ∧
            (
             (↑k3 : Int) ≤ (↑k3 : Int)) ∧
            (
             (
              false = true) →
             true = true)) ∧
           Ca Try.prog (8 : Nat) #[Value.slice (if (↑k3 : Int).toNat = n13.toNat then p1 else Option.map (fun x => x.add (n13.toNat * sizeT Try.prog (29 : Nat))) p1) (n45.toNat - n13.toNat) ((↑k3 : Int).toNat - n13.toNat)] w35 fun e46 w47 =>
           ∃ n48 : Int,
           ∃ n49 : Int,
           ∃ n50 : Int,
           ∃ s51 : ByteArray,
           ∃ n52 : Int,
           ∃ n53 : Int,
           ∃ b54 : Bool,
           (
            e46 = Ending.returned (Value.tuple #[Value.agg #[Value.int IntKind.i64 n48, Value.int IntKind.i64 n49, Value.int IntKind.i64 n50, Value.string s51, Value.int IntKind.i64 n52, Value.int IntKind.i64 n53], Value.bool b54])) ∧
           LetA (Obj.cells #[Value.int IntKind.i64 (0 : Int), Value.int IntKind.i64 (0 : Int), Value.int IntKind.i64 (0 : Int), Value.string { data := #[] }, Value.int IntKind.i64 (0 : Int), Value.int IntKind.i64 (0 : Int)] (29 : Nat)) w47 fun b55 w56 =>
           (
            WrRow w56 { block := b55, off := (0 : Nat) } (0 : Nat) [Value.int IntKind.i64 n48, Value.int IntKind.i64 n49, Value.int IntKind.i64 n50, Value.string s51, Value.int IntKind.i64 n52, Value.int IntKind.i64 n53]) ∧
           LetW (setRow w56 { block := b55, off := (0 : Nat) } (0 : Nat) [Value.int IntKind.i64 n48, Value.int IntKind.i64 n49, Value.int IntKind.i64 n50, Value.string s51, Value.int IntKind.i64 n52, Value.int IntKind.i64 n53]) fun w57 =>
           NilOk p1 fun a58 =>
           (
            (
             (0 : Int) ≤ n13) ∧
            n13 < (↑k2 : Int)) ∧
           ∃ n59 : Int,
           ∃ n60 : Int,
           ∃ n61 : Int,
           ∃ s62 : ByteArray,
           ∃ n63 : Int,
           ∃ n64 : Int,
           (
            Row w57 (a58.add (n13.toNat * (6 : Nat))) (0 : Nat) [Value.int IntKind.i64 n59, Value.int IntKind.i64 n60, Value.int IntKind.i64 n61, Value.string s62, Value.int IntKind.i64 n63, Value.int IntKind.i64 n64]) ∧
           Ca Try.prog (10 : Nat) #[Value.pointer p9, Value.agg #[Value.int IntKind.i64 n59, Value.int IntKind.i64 n60, Value.int IntKind.i64 n61, Value.string s62, Value.int IntKind.i64 n63, Value.int IntKind.i64 n64]] w57 fun e65 w66 =>
           ∃ b67 : Bool,
           (
            e65 = Ending.returned (Value.bool b67)) ∧
           Br (b54)
            (
             Br (!b67 == !b24)
              (
               R (Ending.returned (Value.bool false)) w66)
              (
               LetI (IntKind.i64.wrap (n13 + (1 : Int))) fun n68 =>
               ∃ k69 : Nat,
               (
                k69 < k14) ∧
               I10 k69 [Value.bool b12, Value.int IntKind.i64 n68] w66))
            (
             Br (!b67 == false)
              (
               R (Ending.returned (Value.bool false)) w66)
              (
               LetI (IntKind.i64.wrap (n13 + (1 : Int))) fun n70 =>
               ∃ k71 : Nat,
               (
                k71 < k14) ∧
               I10 k71 [Value.bool b12, Value.int IntKind.i64 n70] w66))))))
    (
     Ca Try.prog (6 : Nat) #[] w15 fun e72 w73 =>
     ∃ b74 : Bool,
     (
      e72 = Ending.returned (Value.bool b74)) ∧
     R (Ending.returned (Value.bool b74)) w73))
theorem lawSet_ok (p1 : Option Addr) (k2 : Nat) (k3 : Nat) (w : World) (R : Ending → World → Prop) (h : lawSet p1 k2 k3 w R) : Ca Try.prog 3 #[Value.slice p1 k2 k3] w R :=
  Ca.of_fvc (c := bodyOf Try.f3) (by kernel_rfl) Try.func3 (by kernel_rfl) [] (Eq.mp (by kernel_rfl) h)

def lawNone (n1 : Int) (n2 : Int) (n3 : Int) (s4 : ByteArray) (n5 : Int) (n6 : Int) (w : World) (R : Ending → World → Prop) : Prop :=
 LetA (Obj.cells #[Value.int IntKind.i64 n1, Value.int IntKind.i64 n2, Value.int IntKind.i64 n3, Value.string s4, Value.int IntKind.i64 n5, Value.int IntKind.i64 n6] (29 : Nat)) w fun b7 w8 =>
 ∃ I9 : Nat → List Value → World → Prop,
 (
  ∃ k10 : Nat,
  I9 k10 [Value.bool false, Value.pointer none, Value.int IntKind.i64 (0 : Int)] w8) ∧
 ∀ b11 : Bool,
 ∀ p12 : Option Addr,
 ∀ n13 : Int,
 ∀ k14 : Nat,
 ∀ w15 : World,
 (
  I9 k14 [Value.bool b11, Value.pointer p12, Value.int IntKind.i64 n13] w15) →
 Br (decide (n13 < (2 : Int)))
  (
   ∃ n16 : Int,
   ∃ n17 : Int,
   ∃ n18 : Int,
   ∃ s19 : ByteArray,
   ∃ n20 : Int,
   ∃ n21 : Int,
   (
    Row w15 { block := b7, off := (0 : Nat) } (0 : Nat) [Value.int IntKind.i64 n16, Value.int IntKind.i64 n17, Value.int IntKind.i64 n18, Value.string s19, Value.int IntKind.i64 n20, Value.int IntKind.i64 n21]) ∧
   Ca Try.prog (10 : Nat) #[Value.pointer p12, Value.agg #[Value.int IntKind.i64 n16, Value.int IntKind.i64 n17, Value.int IntKind.i64 n18, Value.string s19, Value.int IntKind.i64 n20, Value.int IntKind.i64 n21]] w15 fun e22 w23 =>
   ∃ b24 : Bool,
   (
    e22 = Ending.returned (Value.bool b24)) ∧
   Br (b24)
    (
     R (Ending.returned (Value.bool false)) w23)
    (
     Ca Try.prog (9 : Nat) #[Value.pointer p12, Value.agg #[Value.int IntKind.i64 (0 : Int), Value.int IntKind.i64 (0 : Int), Value.int IntKind.i64 (0 : Int), Value.string { data := #[] }, Value.int IntKind.i64 (0 : Int), Value.int IntKind.i64 (0 : Int)], Value.bool false] w23 fun e25 w26 =>
     ∃ b27 : Bool,
     (
      e25 = Ending.returned (Value.bool b27)) ∧
     Br (!b27)
      (
       R (Ending.returned (Value.bool false)) w26)
      (
       LetA (Obj.cells #[Value.bool false, Value.int IntKind.u32 (0 : Int), Value.int IntKind.i32 (0 : Int), Value.int IntKind.u32 (0 : Int), Value.bool false, Value.int IntKind.i64 (0 : Int), Value.int IntKind.i64 (0 : Int), Value.int IntKind.i64 (0 : Int), Value.string { data := #[] }, Value.int IntKind.i64 (0 : Int), Value.int IntKind.i64 (0 : Int)] (48 : Nat)) w26 fun b28 w29 =>
       LetI (IntKind.i64.wrap (n13 + (1 : Int))) fun n30 =>
       ∃ k31 : Nat,
       (
        k31 < k14) ∧
       I9 k31 [Value.bool b11, Value.pointer (some { block := b28, off := (0 : Nat) }), Value.int IntKind.i64 n30] w29)))
  (
   Ca Try.prog (7 : Nat) #[] w15 fun e32 w33 =>
   ∃ p34 : Option Addr,
   (
    e32 = Ending.returned (Value.pointer p34)) ∧
   (
    Wr w33 { block := b7, off := (0 : Nat) }) ∧
   LetW (w33.setCell { block := b7, off := (0 : Nat) } (Value.int IntKind.i64 (0 : Int))) fun w35 =>
   ∃ n36 : Int,
   ∃ n37 : Int,
   ∃ n38 : Int,
   ∃ s39 : ByteArray,
   ∃ n40 : Int,
   ∃ n41 : Int,
   (
    Row w35 { block := b7, off := (0 : Nat) } (0 : Nat) [Value.int IntKind.i64 n36, Value.int IntKind.i64 n37, Value.int IntKind.i64 n38, Value.string s39, Value.int IntKind.i64 n40, Value.int IntKind.i64 n41]) ∧
   Ca Try.prog (10 : Nat) #[Value.pointer p34, Value.agg #[Value.int IntKind.i64 n36, Value.int IntKind.i64 n37, Value.int IntKind.i64 n38, Value.string s39, Value.int IntKind.i64 n40, Value.int IntKind.i64 n41]] w35 fun e42 w43 =>
   ∃ b44 : Bool,
   (
    e42 = Ending.returned (Value.bool b44)) ∧
   Br (b44)
    (
     R (Ending.returned (Value.bool false)) w43)
    (
     Ca Try.prog (9 : Nat) #[Value.pointer p34, Value.agg #[Value.int IntKind.i64 (0 : Int), Value.int IntKind.i64 (0 : Int), Value.int IntKind.i64 (0 : Int), Value.string { data := #[] }, Value.int IntKind.i64 (0 : Int), Value.int IntKind.i64 (0 : Int)], Value.bool false] w43 fun e45 w46 =>
     ∃ b47 : Bool,
     (
      e45 = Ending.returned (Value.bool b47)) ∧
     Br (!b47)
      (
       R (Ending.returned (Value.bool false)) w46)
      (
       (
        Wr w46 { block := b7, off := (0 : Nat) }) ∧
       LetW (w46.setCell { block := b7, off := (0 : Nat) } (Value.int IntKind.i64 (4 : Int))) fun w48 =>
       ∃ n49 : Int,
       ∃ n50 : Int,
       ∃ n51 : Int,
       ∃ s52 : ByteArray,
       ∃ n53 : Int,
       ∃ n54 : Int,
       (
        Row w48 { block := b7, off := (0 : Nat) } (0 : Nat) [Value.int IntKind.i64 n49, Value.int IntKind.i64 n50, Value.int IntKind.i64 n51, Value.string s52, Value.int IntKind.i64 n53, Value.int IntKind.i64 n54]) ∧
       Ca Try.prog (10 : Nat) #[Value.pointer p34, Value.agg #[Value.int IntKind.i64 n49, Value.int IntKind.i64 n50, Value.int IntKind.i64 n51, Value.string s52, Value.int IntKind.i64 n53, Value.int IntKind.i64 n54]] w48 fun e55 w56 =>
       ∃ b57 : Bool,
       (
        e55 = Ending.returned (Value.bool b57)) ∧
       Br (!b57)
        (
         Ca Try.prog (9 : Nat) #[Value.pointer p34, Value.agg #[Value.int IntKind.i64 (0 : Int), Value.int IntKind.i64 (0 : Int), Value.int IntKind.i64 (0 : Int), Value.string { data := #[] }, Value.int IntKind.i64 (0 : Int), Value.int IntKind.i64 (0 : Int)], Value.bool false] w56 fun e58 w59 =>
         ∃ b60 : Bool,
         (
          e58 = Ending.returned (Value.bool b60)) ∧
         Br (b60)
          (
           Ca Try.prog (6 : Nat) #[] w59 fun e61 w62 =>
           ∃ b63 : Bool,
           (
            e61 = Ending.returned (Value.bool b63)) ∧
           R (Ending.returned (Value.bool b63)) w62)
          (
           R (Ending.returned (Value.bool false)) w59))
        (
         R (Ending.returned (Value.bool false)) w56))))
theorem lawNone_ok (n1 : Int) (n2 : Int) (n3 : Int) (s4 : ByteArray) (n5 : Int) (n6 : Int) (w : World) (R : Ending → World → Prop) (h : lawNone n1 n2 n3 s4 n5 n6 w R) : Ca Try.prog 4 #[Value.agg #[Value.int IntKind.i64 n1, Value.int IntKind.i64 n2, Value.int IntKind.i64 n3, Value.string s4, Value.int IntKind.i64 n5, Value.int IntKind.i64 n6]] w R :=
  Ca.of_fvc (c := bodyOf Try.f4) (by kernel_rfl) Try.func4 (by kernel_rfl) [] (Eq.mp (by kernel_rfl) h)

def lawOnce (n1 : Int) (n2 : Int) (n3 : Int) (s4 : ByteArray) (n5 : Int) (n6 : Int) (p7 : Option Addr) (k8 : Nat) (_k9 : Nat) (w : World) (R : Ending → World → Prop) : Prop :=
 LetA (Obj.cells #[Value.int IntKind.i64 n1, Value.int IntKind.i64 n2, Value.int IntKind.i64 n3, Value.string s4, Value.int IntKind.i64 n5, Value.int IntKind.i64 n6] (29 : Nat)) w fun b10 w11 =>
 Br (decide ((↑k8 : Int) > (60 : Int)))
  (
   Ca Try.prog (6 : Nat) #[] w11 fun e12 w13 =>
   ∃ b14 : Bool,
   (
    e12 = Ending.returned (Value.bool b14)) ∧
   R (Ending.returned (Value.bool b14)) w13)
  (
   ∃ n15 : Int,
   (
    w11.cell? { block := b10, off := (0 : Nat) } = some (Value.int IntKind.i64 n15)) ∧
   (
    (3 : Int) ≠ (0 : Int)) ∧
   LetI ((IntKind.i64.wrap (↑(BitVec.ofInt (64 : Nat) n15 &&& BitVec.ofInt (64 : Nat) (3 : Int)).toNat : Int)).tmod (3 : Int)) fun n16 =>
   LetI (IntKind.i64.wrap ((1 : Int) + n16)) fun n17 =>
   (
    Wr w11 { block := b10, off := (0 : Nat) }) ∧
   LetW (w11.setCell { block := b10, off := (0 : Nat) } (Value.int IntKind.i64 n17)) fun w18 =>
   Ca Try.prog (7 : Nat) #[] w18 fun e19 w20 =>
   ∃ p21 : Option Addr,
   (
    e19 = Ending.returned (Value.pointer p21)) ∧
   ∃ n22 : Int,
   ∃ n23 : Int,
   ∃ n24 : Int,
   ∃ s25 : ByteArray,
   ∃ n26 : Int,
   ∃ n27 : Int,
   (
    Row w20 { block := b10, off := (0 : Nat) } (0 : Nat) [Value.int IntKind.i64 n22, Value.int IntKind.i64 n23, Value.int IntKind.i64 n24, Value.string s25, Value.int IntKind.i64 n26, Value.int IntKind.i64 n27]) ∧
   Ca Try.prog (10 : Nat) #[Value.pointer p21, Value.agg #[Value.int IntKind.i64 n22, Value.int IntKind.i64 n23, Value.int IntKind.i64 n24, Value.string s25, Value.int IntKind.i64 n26, Value.int IntKind.i64 n27]] w20 fun e28 w29 =>
   ∃ b30 : Bool,
   (
    e28 = Ending.returned (Value.bool b30)) ∧
   Br (!b30)
    (
     R (Ending.returned (Value.bool false)) w29)
    (
     ∃ I31 : Nat → List Value → World → Prop,
     (
      ∃ k32 : Nat,
      I31 k32 [Value.bool false, Value.int IntKind.i64 (0 : Int)] w29) ∧
     ∀ b33 : Bool,
     ∀ n34 : Int,
     ∀ k35 : Nat,
     ∀ w36 : World,
     (
      I31 k35 [Value.bool b33, Value.int IntKind.i64 n34] w36) →
     Br (decide (n34 < (↑k8 : Int)))
      (
       Ca Try.prog (11 : Nat) #[Value.pointer p21] w36 fun e37 w38 =>
       ∃ n39 : Int,
       ∃ n40 : Int,
       ∃ n41 : Int,
       ∃ s42 : ByteArray,
       ∃ n43 : Int,
       ∃ n44 : Int,
       ∃ b45 : Bool,
       (
        e37 = Ending.returned (Value.tuple #[Value.agg #[Value.int IntKind.i64 n39, Value.int IntKind.i64 n40, Value.int IntKind.i64 n41, Value.string s42, Value.int IntKind.i64 n43, Value.int IntKind.i64 n44], Value.bool b45])) ∧
       LetA (Obj.cells #[Value.int IntKind.i64 (0 : Int), Value.int IntKind.i64 (0 : Int), Value.int IntKind.i64 (0 : Int), Value.string { data := #[] }, Value.int IntKind.i64 (0 : Int), Value.int IntKind.i64 (0 : Int)] (29 : Nat)) w38 fun b46 w47 =>
       (
        WrRow w47 { block := b46, off := (0 : Nat) } (0 : Nat) [Value.int IntKind.i64 n39, Value.int IntKind.i64 n40, Value.int IntKind.i64 n41, Value.string s42, Value.int IntKind.i64 n43, Value.int IntKind.i64 n44]) ∧
       LetW (setRow w47 { block := b46, off := (0 : Nat) } (0 : Nat) [Value.int IntKind.i64 n39, Value.int IntKind.i64 n40, Value.int IntKind.i64 n41, Value.string s42, Value.int IntKind.i64 n43, Value.int IntKind.i64 n44]) fun w48 =>
       NilOk p7 fun a49 =>
       (
        (
         (0 : Int) ≤ n34) ∧
        n34 < (↑k8 : Int)) ∧
       ∃ n50 : Int,
       ∃ n51 : Int,
       ∃ n52 : Int,
       ∃ s53 : ByteArray,
       ∃ n54 : Int,
       ∃ n55 : Int,
       (
        Row w48 (a49.add (n34.toNat * (6 : Nat))) (0 : Nat) [Value.int IntKind.i64 n50, Value.int IntKind.i64 n51, Value.int IntKind.i64 n52, Value.string s53, Value.int IntKind.i64 n54, Value.int IntKind.i64 n55]) ∧
       Ca Try.prog (10 : Nat) #[Value.pointer p21, Value.agg #[Value.int IntKind.i64 n50, Value.int IntKind.i64 n51, Value.int IntKind.i64 n52, Value.string s53, Value.int IntKind.i64 n54, Value.int IntKind.i64 n55]] w48 fun e56 w57 =>
       ∃ b58 : Bool,
       (
        e56 = Ending.returned (Value.bool b58)) ∧
       Br (b58)
        (
         R (Ending.returned (Value.bool false)) w57)
        (
         ∃ n59 : Int,
         ∃ n60 : Int,
         ∃ n61 : Int,
         ∃ s62 : ByteArray,
         ∃ n63 : Int,
         ∃ n64 : Int,
         (
          Row w57 { block := b46, off := (0 : Nat) } (0 : Nat) [Value.int IntKind.i64 n59, Value.int IntKind.i64 n60, Value.int IntKind.i64 n61, Value.string s62, Value.int IntKind.i64 n63, Value.int IntKind.i64 n64]) ∧
         ∃ n65 : Int,
         ∃ n66 : Int,
         ∃ n67 : Int,
         ∃ s68 : ByteArray,
         ∃ n69 : Int,
         ∃ n70 : Int,
         (
          Row w57 { block := b10, off := (0 : Nat) } (0 : Nat) [Value.int IntKind.i64 n65, Value.int IntKind.i64 n66, Value.int IntKind.i64 n67, Value.string s68, Value.int IntKind.i64 n69, Value.int IntKind.i64 n70]) ∧
         Br (!(n59 == n65 && (n60 == n66 && (n61 == n67 && (s62.toList == s68.toList && (n63 == n69 && (n64 == n70 && true))) && true))))
          (
           R (Ending.returned (Value.bool false)) w57)
          (
           Br (!b45)
            (
             R (Ending.returned (Value.bool false)) w57)
            (
             LetI (IntKind.i64.wrap (n34 + (1 : Int))) fun n71 =>
             ∃ k72 : Nat,
             (
              k72 < k35) ∧
             I31 k72 [Value.bool b33, Value.int IntKind.i64 n71] w57))))
      (
       Ca Try.prog (11 : Nat) #[Value.pointer p21] w36 fun e73 w74 =>
       ∃ n75 : Int,
       ∃ n76 : Int,
       ∃ n77 : Int,
       ∃ s78 : ByteArray,
       ∃ n79 : Int,
       ∃ n80 : Int,
       ∃ b81 : Bool,
       (
        e73 = Ending.returned (Value.tuple #[Value.agg #[Value.int IntKind.i64 n75, Value.int IntKind.i64 n76, Value.int IntKind.i64 n77, Value.string s78, Value.int IntKind.i64 n79, Value.int IntKind.i64 n80], Value.bool b81])) ∧
       LetA (Obj.cells #[Value.int IntKind.i64 (0 : Int), Value.int IntKind.i64 (0 : Int), Value.int IntKind.i64 (0 : Int), Value.string { data := #[] }, Value.int IntKind.i64 (0 : Int), Value.int IntKind.i64 (0 : Int)] (29 : Nat)) w74 fun b82 w83 =>
       (
        WrRow w83 { block := b82, off := (0 : Nat) } (0 : Nat) [Value.int IntKind.i64 n75, Value.int IntKind.i64 n76, Value.int IntKind.i64 n77, Value.string s78, Value.int IntKind.i64 n79, Value.int IntKind.i64 n80]) ∧
       LetW (setRow w83 { block := b82, off := (0 : Nat) } (0 : Nat) [Value.int IntKind.i64 n75, Value.int IntKind.i64 n76, Value.int IntKind.i64 n77, Value.string s78, Value.int IntKind.i64 n79, Value.int IntKind.i64 n80]) fun w84 =>
       ∃ n85 : Int,
       ∃ n86 : Int,
       ∃ n87 : Int,
       ∃ s88 : ByteArray,
       ∃ n89 : Int,
       ∃ n90 : Int,
       (
        Row w84 { block := b10, off := (0 : Nat) } (0 : Nat) [Value.int IntKind.i64 n85, Value.int IntKind.i64 n86, Value.int IntKind.i64 n87, Value.string s88, Value.int IntKind.i64 n89, Value.int IntKind.i64 n90]) ∧
       Ca Try.prog (10 : Nat) #[Value.pointer p21, Value.agg #[Value.int IntKind.i64 n85, Value.int IntKind.i64 n86, Value.int IntKind.i64 n87, Value.string s88, Value.int IntKind.i64 n89, Value.int IntKind.i64 n90]] w84 fun e91 w92 =>
       ∃ b93 : Bool,
       (
        e91 = Ending.returned (Value.bool b93)) ∧
       Br (!b93)
        (
         ∃ n94 : Int,
         ∃ n95 : Int,
         ∃ n96 : Int,
         ∃ s97 : ByteArray,
         ∃ n98 : Int,
         ∃ n99 : Int,
         (
          Row w92 { block := b82, off := (0 : Nat) } (0 : Nat) [Value.int IntKind.i64 n94, Value.int IntKind.i64 n95, Value.int IntKind.i64 n96, Value.string s97, Value.int IntKind.i64 n98, Value.int IntKind.i64 n99]) ∧
         ∃ n100 : Int,
         ∃ n101 : Int,
         ∃ n102 : Int,
         ∃ s103 : ByteArray,
         ∃ n104 : Int,
         ∃ n105 : Int,
         (
          Row w92 { block := b10, off := (0 : Nat) } (0 : Nat) [Value.int IntKind.i64 n100, Value.int IntKind.i64 n101, Value.int IntKind.i64 n102, Value.string s103, Value.int IntKind.i64 n104, Value.int IntKind.i64 n105]) ∧
         Br (n94 == n100 && (n95 == n101 && (n96 == n102 && (s97.toList == s103.toList && (n98 == n104 && (n99 == n105 && true))) && true)))
          (
           Br (b81)
            (
             Ca Try.prog (6 : Nat) #[] w92 fun e106 w107 =>
             ∃ b108 : Bool,
             (
              e106 = Ending.returned (Value.bool b108)) ∧
             R (Ending.returned (Value.bool b108)) w107)
            (
             R (Ending.returned (Value.bool false)) w92))
          (
           R (Ending.returned (Value.bool false)) w92))
        (
         R (Ending.returned (Value.bool false)) w92))))
theorem lawOnce_ok (n1 : Int) (n2 : Int) (n3 : Int) (s4 : ByteArray) (n5 : Int) (n6 : Int) (p7 : Option Addr) (k8 : Nat) (k9 : Nat) (w : World) (R : Ending → World → Prop) (h : lawOnce n1 n2 n3 s4 n5 n6 p7 k8 k9 w R) : Ca Try.prog 5 #[Value.agg #[Value.int IntKind.i64 n1, Value.int IntKind.i64 n2, Value.int IntKind.i64 n3, Value.string s4, Value.int IntKind.i64 n5, Value.int IntKind.i64 n6], Value.slice p7 k8 k9] w R :=
  Ca.of_fvc (c := bodyOf Try.f5) (by kernel_rfl) Try.func5 (by kernel_rfl) [] (Eq.mp (by kernel_rfl) h)

end Go.Proofs.Ytppcnadjfoonoaa
