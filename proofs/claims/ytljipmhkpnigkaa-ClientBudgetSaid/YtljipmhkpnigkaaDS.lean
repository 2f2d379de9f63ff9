/- The verification conditions of this seat's functions, printed by a program; the kernel holds each against the loaded code. -/
import Derived.Test.YtljipmhkpnigkaaProg
import Derived.KernelRfl
import Derived.Test.YtljipmhkpnigkaaV5
set_option maxRecDepth 100000
namespace Go.Proofs.Ytljipmhkpnigkaa
open Go Go.Vc Go.Proofs
def snew (w : World) (R : Ending → World → Prop) : Prop :=
 LetA (Obj.cells #[Value.bool true, Value.int IntKind.u32 (0 : Int), Value.int IntKind.i32 (0 : Int), Value.int IntKind.u32 (0 : Int), Value.bool false, Value.int IntKind.i64 (0 : Int), Value.int IntKind.i64 (0 : Int), Value.int IntKind.i64 (0 : Int), Value.string { data := #[] }, Value.int IntKind.i64 (0 : Int), Value.int IntKind.i64 (0 : Int)] (146 : Nat)) w fun b1 w2 =>
 R (Ending.returned (Value.pointer (some { block := b1, off := (0 : Nat) }))) w2
theorem snew_ok (w : World) (R : Ending → World → Prop) (h : snew  w R) : Ca Try.prog 72 #[] w R :=
  Ca.of_fvc (c := bodyOf Try.f72) (by kernel_rfl) Try.func72 (by kernel_rfl) [] (Eq.mp (by kernel_rfl) h)

def sset (b1 : Nat) (n2 : Int) (n3 : Int) (n4 : Int) (s5 : ByteArray) (n6 : Int) (n7 : Int) (w : World) (R : Ending → World → Prop) : Prop :=
 LetA (Obj.cells #[Value.pointer (some { block := b1, off := (0 : Nat) })] (86 : Nat)) w fun b8 w9 =>
 LetA (Obj.cells #[Value.int IntKind.i64 n2, Value.int IntKind.i64 n3, Value.int IntKind.i64 n4, Value.string s5, Value.int IntKind.i64 n6, Value.int IntKind.i64 n7] (80 : Nat)) w9 fun b10 w11 =>
 ∃ p12 : Option Addr,
 (
  w11.cell? { block := b8, off := (0 : Nat) } = some (Value.pointer p12)) ∧
 Br (p12.isNone)
  (
   R (Ending.returned (Value.bool false)) w11)
  (
   ∃ p13 : Option Addr,
   (
    w11.cell? { block := b8, off := (0 : Nat) } = some (Value.pointer p13)) ∧
   NilOk p13 fun a14 =>
   ∃ b15 : Bool,
   (
    w11.cell? a14 = some (Value.bool b15)) ∧
   Br (!b15)
    (
     R (Ending.returned (Value.bool false)) w11)
    (
     ∃ n16 : Int,
     (
      w11.cell? { block := b10, off := (0 : Nat) } = some (Value.int IntKind.i64 n16)) ∧
     Br (decide (n16 ≤ (0 : Int)))
      (
       R (Ending.returned (Value.bool false)) w11)
      (
       ∃ n17 : Int,
       (
        w11.cell? { block := b10, off := (0 : Nat) } = some (Value.int IntKind.i64 n17)) ∧
       Br (decide (n17 > (3 : Int)))
        (
         R (Ending.returned (Value.bool false)) w11)
        (
         LetA (Obj.cells #[Value.bool false] (4 : Nat)) w11 fun b18 w19 =>
         (
          Wr w19 { block := b18, off := (0 : Nat) }) ∧
         LetW (w19.setCell { block := b18, off := (0 : Nat) } (Value.bool false)) fun w20 =>
         ∃ p21 : Option Addr,
         (
          w20.cell? { block := b8, off := (0 : Nat) } = some (Value.pointer p21)) ∧
         NilOk p21 fun a22 =>
         Ca Try.prog (99 : Nat) #[Value.pointer (some (a22.add (1 : Nat))), Value.func (Fn.func (100 : Nat)) #[] #[Value.pointer (some { block := b10, off := (0 : Nat) }), Value.pointer (some { block := b8, off := (0 : Nat) }), Value.pointer (some { block := b18, off := (0 : Nat) })]] w20 fun e23 w24 =>
         (
          e23 = Ending.returned (Value.tuple #[])) ∧
         ∃ b25 : Bool,
         (
          w24.cell? { block := b18, off := (0 : Nat) } = some (Value.bool b25)) ∧
         R (Ending.returned (Value.bool b25)) w24))))
theorem sset_ok (b1 : Nat) (n2 : Int) (n3 : Int) (n4 : Int) (s5 : ByteArray) (n6 : Int) (n7 : Int) (w : World) (R : Ending → World → Prop) (h : sset b1 n2 n3 n4 s5 n6 n7 w R) : Ca Try.prog 94 #[Value.pointer (some { block := b1, off := (0 : Nat) }), Value.agg #[Value.int IntKind.i64 n2, Value.int IntKind.i64 n3, Value.int IntKind.i64 n4, Value.string s5, Value.int IntKind.i64 n6, Value.int IntKind.i64 n7]] w R :=
  Ca.of_fvc (c := bodyOf Try.f94) (by kernel_rfl) Try.func94 (by kernel_rfl) [] (Eq.mp (by kernel_rfl) h)

def sget (b1 : Nat) (w : World) (R : Ending → World → Prop) : Prop :=
 LetA (Obj.cells #[Value.int IntKind.i64 (0 : Int), Value.int IntKind.i64 (0 : Int), Value.int IntKind.i64 (0 : Int), Value.string { data := #[] }, Value.int IntKind.i64 (0 : Int), Value.int IntKind.i64 (0 : Int)] (80 : Nat)) w fun b2 w3 =>
 ∃ b4 : Bool,
 (
  w3.cell? { block := b1, off := (4 : Nat) } = some (Value.bool b4)) ∧
 Br (!b4)
  (
   (
    WrRow w3 { block := b2, off := (0 : Nat) } (0 : Nat) [Value.int IntKind.i64 (0 : Int), Value.int IntKind.i64 (0 : Int), Value.int IntKind.i64 (0 : Int), Value.string { data := #[] }, Value.int IntKind.i64 (0 : Int), Value.int IntKind.i64 (0 : Int)]) ∧
   LetW (setRow w3 { block := b2, off := (0 : Nat) } (0 : Nat) [Value.int IntKind.i64 (0 : Int), Value.int IntKind.i64 (0 : Int), Value.int IntKind.i64 (0 : Int), Value.string { data := #[] }, Value.int IntKind.i64 (0 : Int), Value.int IntKind.i64 (0 : Int)]) fun w5 =>
   ∃ n6 : Int,
   ∃ n7 : Int,
   ∃ n8 : Int,
   ∃ s9 : ByteArray,
   ∃ n10 : Int,
   ∃ n11 : Int,
   (
    Row w5 { block := b2, off := (0 : Nat) } (0 : Nat) [Value.int IntKind.i64 n6, Value.int IntKind.i64 n7, Value.int IntKind.i64 n8, Value.string s9, Value.int IntKind.i64 n10, Value.int IntKind.i64 n11]) ∧
   R (Ending.returned (Value.tuple #[Value.agg #[Value.int IntKind.i64 n6, Value.int IntKind.i64 n7, Value.int IntKind.i64 n8, Value.string s9, Value.int IntKind.i64 n10, Value.int IntKind.i64 n11], Value.bool false])) w5)
  (
   ∃ n12 : Int,
   ∃ n13 : Int,
   ∃ n14 : Int,
   ∃ s15 : ByteArray,
   ∃ n16 : Int,
   ∃ n17 : Int,
   (
    Row w3 { block := b1, off := (5 : Nat) } (0 : Nat) [Value.int IntKind.i64 n12, Value.int IntKind.i64 n13, Value.int IntKind.i64 n14, Value.string s15, Value.int IntKind.i64 n16, Value.int IntKind.i64 n17]) ∧
   (
    WrRow w3 { block := b2, off := (0 : Nat) } (0 : Nat) [Value.int IntKind.i64 n12, Value.int IntKind.i64 n13, Value.int IntKind.i64 n14, Value.string s15, Value.int IntKind.i64 n16, Value.int IntKind.i64 n17]) ∧
   LetW (setRow w3 { block := b2, off := (0 : Nat) } (0 : Nat) [Value.int IntKind.i64 n12, Value.int IntKind.i64 n13, Value.int IntKind.i64 n14, Value.string s15, Value.int IntKind.i64 n16, Value.int IntKind.i64 n17]) fun w18 =>
   ∃ n19 : Int,
   ∃ n20 : Int,
   ∃ n21 : Int,
   ∃ s22 : ByteArray,
   ∃ n23 : Int,
   ∃ n24 : Int,
   (
    Row w18 { block := b2, off := (0 : Nat) } (0 : Nat) [Value.int IntKind.i64 n19, Value.int IntKind.i64 n20, Value.int IntKind.i64 n21, Value.string s22, Value.int IntKind.i64 n23, Value.int IntKind.i64 n24]) ∧
   R (Ending.returned (Value.tuple #[Value.agg #[Value.int IntKind.i64 n19, Value.int IntKind.i64 n20, Value.int IntKind.i64 n21, Value.string s22, Value.int IntKind.i64 n23, Value.int IntKind.i64 n24], Value.bool true])) w18)
theorem sget_ok (b1 : Nat) (w : World) (R : Ending → World → Prop) (h : sget b1 w R) : Ca Try.prog 76 #[Value.pointer (some { block := b1, off := (0 : Nat) })] w R :=
  Ca.of_fvc (c := bodyOf Try.f76) (by kernel_rfl) Try.func76 (by kernel_rfl) [] (Eq.mp (by kernel_rfl) h)

def sin (b1 : Nat) (b2 : Nat) (b3 : Nat) (w : World) (R : Ending → World → Prop) : Prop :=
 ∃ p4 : Option Addr,
 (
  w.cell? { block := b2, off := (0 : Nat) } = some (Value.pointer p4)) ∧
 ∃ p5 : Option Addr,
 (
  w.cell? { block := b2, off := (0 : Nat) } = some (Value.pointer p5)) ∧
 ∃ n6 : Int,
 ∃ n7 : Int,
 ∃ n8 : Int,
 ∃ s9 : ByteArray,
 ∃ n10 : Int,
 ∃ n11 : Int,
 (
  Row w { block := b1, off := (0 : Nat) } (0 : Nat) [Value.int IntKind.i64 n6, Value.int IntKind.i64 n7, Value.int IntKind.i64 n8, Value.string s9, Value.int IntKind.i64 n10, Value.int IntKind.i64 n11]) ∧
 NilOk p4 fun a12 =>
 (
  WrRow w (a12.add (5 : Nat)) (0 : Nat) [Value.int IntKind.i64 n6, Value.int IntKind.i64 n7, Value.int IntKind.i64 n8, Value.string s9, Value.int IntKind.i64 n10, Value.int IntKind.i64 n11]) ∧
 LetW (setRow w (a12.add (5 : Nat)) (0 : Nat) [Value.int IntKind.i64 n6, Value.int IntKind.i64 n7, Value.int IntKind.i64 n8, Value.string s9, Value.int IntKind.i64 n10, Value.int IntKind.i64 n11]) fun w13 =>
 (
  w13.cell? { block := b2, off := (0 : Nat) } = some (Value.pointer p5)) ∧
 NilOk p5 fun a14 =>
 (
  Wr w13 (a14.add (4 : Nat))) ∧
 LetW (w13.setCell (a14.add (4 : Nat)) (Value.bool true)) fun w15 =>
 (
  Wr w15 { block := b3, off := (0 : Nat) }) ∧
 LetW (w15.setCell { block := b3, off := (0 : Nat) } (Value.bool true)) fun w16 =>
 R (Ending.returned (Value.tuple #[])) w16
theorem sin_ok (b1 : Nat) (b2 : Nat) (b3 : Nat) (w : World) (R : Ending → World → Prop) (h : sin b1 b2 b3 w R) : Ca Try.prog 100 #[Value.pointer (some { block := b1, off := (0 : Nat) }), Value.pointer (some { block := b2, off := (0 : Nat) }), Value.pointer (some { block := b3, off := (0 : Nat) })] w R :=
  Ca.of_fvc (c := bodyOf Try.f100) (by kernel_rfl) Try.func100 (by kernel_rfl) [] (Eq.mp (by kernel_rfl) h)

end Go.Proofs.Ytljipmhkpnigkaa
