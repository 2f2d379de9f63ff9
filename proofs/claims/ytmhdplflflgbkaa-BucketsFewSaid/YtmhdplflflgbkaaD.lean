/- The verification conditions of this seat's functions, printed by a program; the kernel holds each against the loaded code. -/
import Derived.Test.YtmhdplflflgbkaaProg
import Derived.KernelRfl
import Derived.Test.YtmhdplflflgbkaaV5
set_option maxRecDepth 100000
namespace Go.Proofs.Ytmhdplflflgbkaa
open Go Go.Vc Go.Proofs
def none_ (p1 : Option Addr) (w : World) (R : Ending → World → Prop) : Prop :=
 Br (p1.isNone)
  (
   R (Ending.returned (Value.bool true)) w)
  (
   NilOk p1 fun a2 =>
   ∃ n3 : Int,
   (
    w.cell? (a2.add (1 : Nat)) = some (Value.int IntKind.i64 n3)) ∧
   R (Ending.returned (Value.bool (n3 == (0 : Int)))) w)
theorem none__ok (p1 : Option Addr) (w : World) (R : Ending → World → Prop) (h : none_ p1 w R) : Ca Try.prog 14 #[Value.pointer p1] w R :=
  Ca.of_fvc (c := bodyOf Try.f14) (by kernel_rfl) Try.func14 (by kernel_rfl) [] (Eq.mp (by kernel_rfl) h)

def at_ (b1 : Nat) (n2 : Int) (w : World) (R : Ending → World → Prop) : Prop :=
 ∃ n3 : Int,
 (
  w.cell? { block := b1, off := (4 : Nat) } = some (Value.int IntKind.i64 n3)) ∧
 LetI (min n2 (1099511627776 : Int)) fun n4 =>
 LetI (max n3 n4) fun n5 =>
 (
  Wr w { block := b1, off := (4 : Nat) }) ∧
 LetW (w.setCell { block := b1, off := (4 : Nat) } (Value.int IntKind.i64 n5)) fun w6 =>
 ∃ n7 : Int,
 (
  w6.cell? { block := b1, off := (4 : Nat) } = some (Value.int IntKind.i64 n7)) ∧
 ∃ n8 : Int,
 (
  w6.cell? { block := b1, off := (3 : Nat) } = some (Value.int IntKind.i64 n8)) ∧
 LetI (IntKind.i64.wrap (n7 - n8)) fun n9 =>
 ∃ n10 : Int,
 (
  w6.cell? { block := b1, off := (1 : Nat) } = some (Value.int IntKind.i64 n10)) ∧
 (
  n10 ≠ (0 : Int)) ∧
 LetI (IntKind.i64.wrap (n9.tdiv n10)) fun n11 =>
 ∃ n12 : Int,
 (
  w6.cell? { block := b1, off := (2 : Nat) } = some (Value.int IntKind.i64 n12)) ∧
 LetI (IntKind.i64.wrap (n12 + n11)) fun n13 =>
 ∃ n14 : Int,
 (
  w6.cell? { block := b1, off := (0 : Nat) } = some (Value.int IntKind.i64 n14)) ∧
 Br (decide (n13 ≥ n14))
  (
   ∃ n15 : Int,
   (
    w6.cell? { block := b1, off := (0 : Nat) } = some (Value.int IntKind.i64 n15)) ∧
   ∃ n16 : Int,
   (
    w6.cell? { block := b1, off := (4 : Nat) } = some (Value.int IntKind.i64 n16)) ∧
   (
    Wr w6 { block := b1, off := (2 : Nat) }) ∧
   LetW (w6.setCell { block := b1, off := (2 : Nat) } (Value.int IntKind.i64 n15)) fun w17 =>
   (
    Wr w17 { block := b1, off := (3 : Nat) }) ∧
   LetW (w17.setCell { block := b1, off := (3 : Nat) } (Value.int IntKind.i64 n16)) fun w18 =>
   R (Ending.returned (Value.tuple #[])) w18)
  (
   ∃ n19 : Int,
   (
    w6.cell? { block := b1, off := (2 : Nat) } = some (Value.int IntKind.i64 n19)) ∧
   LetI (IntKind.i64.wrap (n19 + n11)) fun n20 =>
   (
    Wr w6 { block := b1, off := (2 : Nat) }) ∧
   LetW (w6.setCell { block := b1, off := (2 : Nat) } (Value.int IntKind.i64 n20)) fun w21 =>
   ∃ n22 : Int,
   (
    w21.cell? { block := b1, off := (3 : Nat) } = some (Value.int IntKind.i64 n22)) ∧
   ∃ n23 : Int,
   (
    w21.cell? { block := b1, off := (1 : Nat) } = some (Value.int IntKind.i64 n23)) ∧
   LetI (IntKind.i64.wrap (n11 * n23)) fun n24 =>
   LetI (IntKind.i64.wrap (n22 + n24)) fun n25 =>
   (
    Wr w21 { block := b1, off := (3 : Nat) }) ∧
   LetW (w21.setCell { block := b1, off := (3 : Nat) } (Value.int IntKind.i64 n25)) fun w26 =>
   R (Ending.returned (Value.tuple #[])) w26)
theorem at__ok (b1 : Nat) (n2 : Int) (w : World) (R : Ending → World → Prop) (h : at_ b1 n2 w R) : Ca Try.prog 15 #[Value.pointer (some { block := b1, off := (0 : Nat) }), Value.int IntKind.i64 n2] w R :=
  Ca.of_fvc (c := bodyOf Try.f15) (by kernel_rfl) Try.func15 (by kernel_rfl) [] (Eq.mp (by kernel_rfl) h)

def left (p1 : Option Addr) (n2 : Int) (w : World) (R : Ending → World → Prop) : Prop :=
 Ca Try.prog (14 : Nat) #[Value.pointer p1] w fun e3 w4 =>
 ∃ b5 : Bool,
 (
  e3 = Ending.returned (Value.bool b5)) ∧
 Br (b5)
  (
   R (Ending.returned (Value.int IntKind.i64 (0 : Int))) w4)
  (
   Ca Try.prog (15 : Nat) #[Value.pointer p1, Value.int IntKind.i64 n2] w4 fun e6 w7 =>
   (
    e6 = Ending.returned (Value.tuple #[])) ∧
   NilOk p1 fun a8 =>
   ∃ n9 : Int,
   (
    w7.cell? (a8.add (2 : Nat)) = some (Value.int IntKind.i64 n9)) ∧
   R (Ending.returned (Value.int IntKind.i64 n9)) w7)
theorem left_ok (p1 : Option Addr) (n2 : Int) (w : World) (R : Ending → World → Prop) (h : left p1 n2 w R) : Ca Try.prog 8 #[Value.pointer p1, Value.int IntKind.i64 n2] w R :=
  Ca.of_fvc (c := bodyOf Try.f8) (by kernel_rfl) Try.func8 (by kernel_rfl) [] (Eq.mp (by kernel_rfl) h)

def take (p1 : Option Addr) (n2 : Int) (w : World) (R : Ending → World → Prop) : Prop :=
 Ca Try.prog (8 : Nat) #[Value.pointer p1, Value.int IntKind.i64 n2] w fun e3 w4 =>
 ∃ n5 : Int,
 (
  e3 = Ending.returned (Value.int IntKind.i64 n5)) ∧
 Br (n5 == (0 : Int))
  (
   R (Ending.returned (Value.bool false)) w4)
  (
   NilOk p1 fun a6 =>
   ∃ n7 : Int,
   (
    w4.cell? (a6.add (2 : Nat)) = some (Value.int IntKind.i64 n7)) ∧
   LetI (IntKind.i64.wrap (n7 - (1 : Int))) fun n8 =>
   NilOk p1 fun a9 =>
   (
    Wr w4 (a9.add (2 : Nat))) ∧
   LetW (w4.setCell (a9.add (2 : Nat)) (Value.int IntKind.i64 n8)) fun w10 =>
   R (Ending.returned (Value.bool true)) w10)
theorem take_ok (p1 : Option Addr) (n2 : Int) (w : World) (R : Ending → World → Prop) (h : take p1 n2 w R) : Ca Try.prog 9 #[Value.pointer p1, Value.int IntKind.i64 n2] w R :=
  Ca.of_fvc (c := bodyOf Try.f9) (by kernel_rfl) Try.func9 (by kernel_rfl) [] (Eq.mp (by kernel_rfl) h)

def copy_ (p1 : Option Addr) (w : World) (R : Ending → World → Prop) : Prop :=
 Ca Try.prog (14 : Nat) #[Value.pointer p1] w fun e2 w3 =>
 ∃ b4 : Bool,
 (
  e2 = Ending.returned (Value.bool b4)) ∧
 Br (b4)
  (
   R (Ending.returned (Value.pointer none)) w3)
  (
   NilOk p1 fun a5 =>
   ∃ n6 : Int,
   ∃ n7 : Int,
   ∃ n8 : Int,
   ∃ n9 : Int,
   ∃ n10 : Int,
   (
    Row w3 a5 (0 : Nat) [Value.int IntKind.i64 n6, Value.int IntKind.i64 n7, Value.int IntKind.i64 n8, Value.int IntKind.i64 n9, Value.int IntKind.i64 n10]) ∧
   LetA (Obj.cells #[Value.int IntKind.i64 (0 : Int), Value.int IntKind.i64 (0 : Int), Value.int IntKind.i64 (0 : Int), Value.int IntKind.i64 (0 : Int), Value.int IntKind.i64 (0 : Int)] (41 : Nat)) w3 fun b11 w12 =>
   (
    WrRow w12 { block := b11, off := (0 : Nat) } (0 : Nat) [Value.int IntKind.i64 n6, Value.int IntKind.i64 n7, Value.int IntKind.i64 n8, Value.int IntKind.i64 n9, Value.int IntKind.i64 n10]) ∧
   LetW (setRow w12 { block := b11, off := (0 : Nat) } (0 : Nat) [Value.int IntKind.i64 n6, Value.int IntKind.i64 n7, Value.int IntKind.i64 n8, Value.int IntKind.i64 n9, Value.int IntKind.i64 n10]) fun w13 =>
   R (Ending.returned (Value.pointer (some { block := b11, off := (0 : Nat) }))) w13)
theorem copy__ok (p1 : Option Addr) (w : World) (R : Ending → World → Prop) (h : copy_ p1 w R) : Ca Try.prog 12 #[Value.pointer p1] w R :=
  Ca.of_fvc (c := bodyOf Try.f12) (by kernel_rfl) Try.func12 (by kernel_rfl) [] (Eq.mp (by kernel_rfl) h)

def new (n1 : Int) (n2 : Int) (w : World) (R : Ending → World → Prop) : Prop :=
 Br (decide (n1 < (0 : Int)))
  (
   R (Ending.returned (Value.tuple #[Value.pointer none, Value.int IntKind.i64 (2 : Int)])) w)
  (
   Br (decide (n1 > (16 : Int)))
    (
     R (Ending.returned (Value.tuple #[Value.pointer none, Value.int IntKind.i64 (2 : Int)])) w)
    (
     Br (decide (n2 < (1 : Int)))
      (
       R (Ending.returned (Value.tuple #[Value.pointer none, Value.int IntKind.i64 (2 : Int)])) w)
      (
       Br (decide (n2 > (1099511627776 : Int)))
        (
         R (Ending.returned (Value.tuple #[Value.pointer none, Value.int IntKind.i64 (2 : Int)])) w)
        (
         LetA (Obj.cells #[Value.int IntKind.i64 n1, Value.int IntKind.i64 n2, Value.int IntKind.i64 n1, Value.int IntKind.i64 (0 : Int), Value.int IntKind.i64 (0 : Int)] (41 : Nat)) w fun b3 w4 =>
         R (Ending.returned (Value.tuple #[Value.pointer (some { block := b3, off := (0 : Nat) }), Value.int IntKind.i64 (0 : Int)])) w4))))
theorem new_ok (n1 : Int) (n2 : Int) (w : World) (R : Ending → World → Prop) (h : new n1 n2 w R) : Ca Try.prog 7 #[Value.int IntKind.i64 n1, Value.int IntKind.i64 n2] w R :=
  Ca.of_fvc (c := bodyOf Try.f7) (by kernel_rfl) Try.func7 (by kernel_rfl) [] (Eq.mp (by kernel_rfl) h)

def rnew (n1 : Int) (n2 : Int) (w : World) (R : Ending → World → Prop) : Prop :=
 Br (decide (n1 < (0 : Int)))
  (
   R (Ending.returned (Value.tuple #[Value.pointer none, Value.int IntKind.i64 (2 : Int)])) w)
  (
   Br (decide (n1 > (16 : Int)))
    (
     R (Ending.returned (Value.tuple #[Value.pointer none, Value.int IntKind.i64 (2 : Int)])) w)
    (
     Br (decide (n2 < (1 : Int)))
      (
       R (Ending.returned (Value.tuple #[Value.pointer none, Value.int IntKind.i64 (2 : Int)])) w)
      (
       Br (decide (n2 > (1099511627776 : Int)))
        (
         R (Ending.returned (Value.tuple #[Value.pointer none, Value.int IntKind.i64 (2 : Int)])) w)
        (
         LetA (Obj.cells #[Value.int IntKind.i64 n1, Value.int IntKind.i64 n2, Value.int IntKind.i64 n1, Value.int IntKind.i64 (0 : Int), Value.int IntKind.i64 (0 : Int)] (44 : Nat)) w fun b3 w4 =>
         R (Ending.returned (Value.tuple #[Value.pointer (some { block := b3, off := (0 : Nat) }), Value.int IntKind.i64 (0 : Int)])) w4))))
theorem rnew_ok (n1 : Int) (n2 : Int) (w : World) (R : Ending → World → Prop) (h : rnew n1 n2 w R) : Ca Try.prog 10 #[Value.int IntKind.i64 n1, Value.int IntKind.i64 n2] w R :=
  Ca.of_fvc (c := bodyOf Try.f10) (by kernel_rfl) Try.func10 (by kernel_rfl) [] (Eq.mp (by kernel_rfl) h)

def bring (b1 : Nat) (n2 : Int) (w : World) (R : Ending → World → Prop) : Prop :=
 ∃ I3 : List Value → World → Prop,
 (
  Br (decide (n2 > (1099511627776 : Int)))
   (
    I3 [Value.int IntKind.i64 (1099511627776 : Int)] w)
   (
    I3 [Value.int IntKind.i64 n2] w)) ∧
 ∀ n4 : Int,
 ∀ w5 : World,
 (
  I3 [Value.int IntKind.i64 n4] w5) →
 ∃ I6 : List Value → World → Prop,
 (
  ∃ n7 : Int,
  (
   w5.cell? { block := b1, off := (4 : Nat) } = some (Value.int IntKind.i64 n7)) ∧
  Br (decide (n4 > n7))
   (
    (
     Wr w5 { block := b1, off := (4 : Nat) }) ∧
    LetW (w5.setCell { block := b1, off := (4 : Nat) } (Value.int IntKind.i64 n4)) fun w8 =>
    I6 [] w8)
   (
    I6 [] w5)) ∧
 ∀ w9 : World,
 (
  I6 [] w9) →
 ∃ I10 : Nat → List Value → World → Prop,
 (
  ∃ k11 : Nat,
  I10 k11 [] w9) ∧
 ∀ k12 : Nat,
 ∀ w13 : World,
 (
  I10 k12 [] w13) →
 ∃ n14 : Int,
 (
  w13.cell? { block := b1, off := (2 : Nat) } = some (Value.int IntKind.i64 n14)) ∧
 ∃ n15 : Int,
 (
  w13.cell? { block := b1, off := (0 : Nat) } = some (Value.int IntKind.i64 n15)) ∧
 Br (decide (n14 < n15))
  (
   ∃ n16 : Int,
   (
    w13.cell? { block := b1, off := (3 : Nat) } = some (Value.int IntKind.i64 n16)) ∧
   ∃ n17 : Int,
   (
    w13.cell? { block := b1, off := (1 : Nat) } = some (Value.int IntKind.i64 n17)) ∧
   LetI (IntKind.i64.wrap (n16 + n17)) fun n18 =>
   ∃ n19 : Int,
   (
    w13.cell? { block := b1, off := (4 : Nat) } = some (Value.int IntKind.i64 n19)) ∧
   Br (decide (n18 ≤ n19))
    (
     ∃ n20 : Int,
     (
      w13.cell? { block := b1, off := (2 : Nat) } = some (Value.int IntKind.i64 n20)) ∧
     LetI (IntKind.i64.wrap (n20 + (1 : Int))) fun n21 =>
     ∃ n22 : Int,
     (
      w13.cell? { block := b1, off := (3 : Nat) } = some (Value.int IntKind.i64 n22)) ∧
     ∃ n23 : Int,
     (
      w13.cell? { block := b1, off := (1 : Nat) } = some (Value.int IntKind.i64 n23)) ∧
     LetI (IntKind.i64.wrap (n22 + n23)) fun n24 =>
     (
      Wr w13 { block := b1, off := (2 : Nat) }) ∧
     LetW (w13.setCell { block := b1, off := (2 : Nat) } (Value.int IntKind.i64 n21)) fun w25 =>
     (
      Wr w25 { block := b1, off := (3 : Nat) }) ∧
     LetW (w25.setCell { block := b1, off := (3 : Nat) } (Value.int IntKind.i64 n24)) fun w26 =>
     ∃ k27 : Nat,
     (
      k27 < k12) ∧
     I10 k27 [] w26)
    (
     ∃ n28 : Int,
     (
      w13.cell? { block := b1, off := (2 : Nat) } = some (Value.int IntKind.i64 n28)) ∧
     ∃ n29 : Int,
     (
      w13.cell? { block := b1, off := (0 : Nat) } = some (Value.int IntKind.i64 n29)) ∧
     Br (n28 == n29)
      (
       ∃ n30 : Int,
       (
        w13.cell? { block := b1, off := (4 : Nat) } = some (Value.int IntKind.i64 n30)) ∧
       (
        Wr w13 { block := b1, off := (3 : Nat) }) ∧
       LetW (w13.setCell { block := b1, off := (3 : Nat) } (Value.int IntKind.i64 n30)) fun w31 =>
       R (Ending.returned (Value.tuple #[])) w31)
      (
       R (Ending.returned (Value.tuple #[])) w13)))
  (
   ∃ n32 : Int,
   (
    w13.cell? { block := b1, off := (2 : Nat) } = some (Value.int IntKind.i64 n32)) ∧
   ∃ n33 : Int,
   (
    w13.cell? { block := b1, off := (0 : Nat) } = some (Value.int IntKind.i64 n33)) ∧
   Br (n32 == n33)
    (
     ∃ n34 : Int,
     (
      w13.cell? { block := b1, off := (4 : Nat) } = some (Value.int IntKind.i64 n34)) ∧
     (
      Wr w13 { block := b1, off := (3 : Nat) }) ∧
     LetW (w13.setCell { block := b1, off := (3 : Nat) } (Value.int IntKind.i64 n34)) fun w35 =>
     R (Ending.returned (Value.tuple #[])) w35)
    (
     R (Ending.returned (Value.tuple #[])) w13))
theorem bring_ok (b1 : Nat) (n2 : Int) (w : World) (R : Ending → World → Prop) (h : bring b1 n2 w R) : Ca Try.prog 16 #[Value.pointer (some { block := b1, off := (0 : Nat) }), Value.int IntKind.i64 n2] w R :=
  Ca.of_fvc (c := bodyOf Try.f16) (by kernel_rfl) Try.func16 (by kernel_rfl) [2, 4] (Eq.mp (by kernel_rfl) h)

def rleft (b1 : Nat) (n2 : Int) (w : World) (R : Ending → World → Prop) : Prop :=
 Ca Try.prog (16 : Nat) #[Value.pointer (some { block := b1, off := (0 : Nat) }), Value.int IntKind.i64 n2] w fun e3 w4 =>
 (
  e3 = Ending.returned (Value.tuple #[])) ∧
 ∃ n5 : Int,
 (
  w4.cell? { block := b1, off := (2 : Nat) } = some (Value.int IntKind.i64 n5)) ∧
 R (Ending.returned (Value.int IntKind.i64 n5)) w4
theorem rleft_ok (b1 : Nat) (n2 : Int) (w : World) (R : Ending → World → Prop) (h : rleft b1 n2 w R) : Ca Try.prog 11 #[Value.pointer (some { block := b1, off := (0 : Nat) }), Value.int IntKind.i64 n2] w R :=
  Ca.of_fvc (c := bodyOf Try.f11) (by kernel_rfl) Try.func11 (by kernel_rfl) [] (Eq.mp (by kernel_rfl) h)

def rtake (b1 : Nat) (n2 : Int) (w : World) (R : Ending → World → Prop) : Prop :=
 Ca Try.prog (16 : Nat) #[Value.pointer (some { block := b1, off := (0 : Nat) }), Value.int IntKind.i64 n2] w fun e3 w4 =>
 (
  e3 = Ending.returned (Value.tuple #[])) ∧
 ∃ n5 : Int,
 (
  w4.cell? { block := b1, off := (2 : Nat) } = some (Value.int IntKind.i64 n5)) ∧
 Br (n5 == (0 : Int))
  (
   R (Ending.returned (Value.bool false)) w4)
  (
   ∃ n6 : Int,
   (
    w4.cell? { block := b1, off := (2 : Nat) } = some (Value.int IntKind.i64 n6)) ∧
   LetI (IntKind.i64.wrap (n6 - (1 : Int))) fun n7 =>
   (
    Wr w4 { block := b1, off := (2 : Nat) }) ∧
   LetW (w4.setCell { block := b1, off := (2 : Nat) } (Value.int IntKind.i64 n7)) fun w8 =>
   R (Ending.returned (Value.bool true)) w8)
theorem rtake_ok (b1 : Nat) (n2 : Int) (w : World) (R : Ending → World → Prop) (h : rtake b1 n2 w R) : Ca Try.prog 13 #[Value.pointer (some { block := b1, off := (0 : Nat) }), Value.int IntKind.i64 n2] w R :=
  Ca.of_fvc (c := bodyOf Try.f13) (by kernel_rfl) Try.func13 (by kernel_rfl) [] (Eq.mp (by kernel_rfl) h)

def filled (w : World) (R : Ending → World → Prop) : Prop :=
 Ca Try.prog (7 : Nat) #[Value.int IntKind.i64 (2 : Int), Value.int IntKind.i64 (10 : Int)] w fun e1 w2 =>
 ∃ p3 : Option Addr,
 ∃ n4 : Int,
 (
  e1 = Ending.returned (Value.tuple #[Value.pointer p3, Value.int IntKind.i64 n4])) ∧
 Br (n4 == (0 : Int))
  (
   Ca Try.prog (9 : Nat) #[Value.pointer p3, Value.int IntKind.i64 (0 : Int)] w2 fun e5 w6 =>
   ∃ b7 : Bool,
   (
    e5 = Ending.returned (Value.bool b7)) ∧
   Br (b7)
    (
     Ca Try.prog (9 : Nat) #[Value.pointer p3, Value.int IntKind.i64 (0 : Int)] w6 fun e8 w9 =>
     ∃ b10 : Bool,
     (
      e8 = Ending.returned (Value.bool b10)) ∧
     Br (b10)
      (
       Ca Try.prog (9 : Nat) #[Value.pointer p3, Value.int IntKind.i64 (0 : Int)] w9 fun e11 w12 =>
       ∃ b13 : Bool,
       (
        e11 = Ending.returned (Value.bool b13)) ∧
       Br (!b13)
        (
         Ca Try.prog (8 : Nat) #[Value.pointer p3, Value.int IntKind.i64 (9 : Int)] w12 fun e14 w15 =>
         ∃ n16 : Int,
         (
          e14 = Ending.returned (Value.int IntKind.i64 n16)) ∧
         Br (n16 == (0 : Int))
          (
           Ca Try.prog (8 : Nat) #[Value.pointer p3, Value.int IntKind.i64 (10 : Int)] w15 fun e17 w18 =>
           ∃ n19 : Int,
           (
            e17 = Ending.returned (Value.int IntKind.i64 n19)) ∧
           Br (n19 == (1 : Int))
            (
             Ca Try.prog (9 : Nat) #[Value.pointer p3, Value.int IntKind.i64 (15 : Int)] w18 fun e20 w21 =>
             ∃ b22 : Bool,
             (
              e20 = Ending.returned (Value.bool b22)) ∧
             Br (b22)
              (
               Ca Try.prog (8 : Nat) #[Value.pointer p3, Value.int IntKind.i64 (19 : Int)] w21 fun e23 w24 =>
               ∃ n25 : Int,
               (
                e23 = Ending.returned (Value.int IntKind.i64 n25)) ∧
               Br (n25 == (0 : Int))
                (
                 Ca Try.prog (8 : Nat) #[Value.pointer p3, Value.int IntKind.i64 (20 : Int)] w24 fun e26 w27 =>
                 ∃ n28 : Int,
                 (
                  e26 = Ending.returned (Value.int IntKind.i64 n28)) ∧
                 Br (n28 == (1 : Int))
                  (
                   Ca Try.prog (8 : Nat) #[Value.pointer p3, Value.int IntKind.i64 (3 : Int)] w27 fun e29 w30 =>
                   ∃ n31 : Int,
                   (
                    e29 = Ending.returned (Value.int IntKind.i64 n31)) ∧
                   Br (n31 == (1 : Int))
                    (
                     Ca Try.prog (8 : Nat) #[Value.pointer p3, Value.int IntKind.i64 (30 : Int)] w30 fun e32 w33 =>
                     ∃ n34 : Int,
                     (
                      e32 = Ending.returned (Value.int IntKind.i64 n34)) ∧
                     R (Ending.returned (Value.bool (n34 == (2 : Int)))) w33)
                    (
                     R (Ending.returned (Value.bool false)) w30))
                  (
                   R (Ending.returned (Value.bool false)) w27))
                (
                 R (Ending.returned (Value.bool false)) w24))
              (
               R (Ending.returned (Value.bool false)) w21))
            (
             R (Ending.returned (Value.bool false)) w18))
          (
           R (Ending.returned (Value.bool false)) w15))
        (
         R (Ending.returned (Value.bool false)) w12))
      (
       R (Ending.returned (Value.bool false)) w9))
    (
     R (Ending.returned (Value.bool false)) w6))
  (
   R (Ending.returned (Value.bool false)) w2)
theorem filled_ok (w : World) (R : Ending → World → Prop) (h : filled  w R) : Ca Try.prog 6 #[] w R :=
  Ca.of_fvc (c := bodyOf Try.f6) (by kernel_rfl) Try.func6 (by kernel_rfl) [] (Eq.mp (by kernel_rfl) h)

def lawNone (n1 : Int) (w : World) (R : Ending → World → Prop) : Prop :=
 ∃ I2 : Nat → List Value → World → Prop,
 (
  ∃ k3 : Nat,
  I2 k3 [Value.bool false, Value.pointer none, Value.int IntKind.i64 (0 : Int)] w) ∧
 ∀ b4 : Bool,
 ∀ p5 : Option Addr,
 ∀ n6 : Int,
 ∀ k7 : Nat,
 ∀ w8 : World,
 (
  I2 k7 [Value.bool b4, Value.pointer p5, Value.int IntKind.i64 n6] w8) →
 Br (decide (n6 < (2 : Int)))
  (
   Ca Try.prog (9 : Nat) #[Value.pointer p5, Value.int IntKind.i64 n1] w8 fun e9 w10 =>
   ∃ b11 : Bool,
   (
    e9 = Ending.returned (Value.bool b11)) ∧
   Br (b11)
    (
     R (Ending.returned (Value.bool false)) w10)
    (
     Ca Try.prog (8 : Nat) #[Value.pointer p5, Value.int IntKind.i64 n1] w10 fun e12 w13 =>
     ∃ n14 : Int,
     (
      e12 = Ending.returned (Value.int IntKind.i64 n14)) ∧
     Br (n14 != (0 : Int))
      (
       R (Ending.returned (Value.bool false)) w13)
      (
       Ca Try.prog (12 : Nat) #[Value.pointer p5] w13 fun e15 w16 =>
       ∃ p17 : Option Addr,
       (
        e15 = Ending.returned (Value.pointer p17)) ∧
       Br (!p17.isNone)
        (
         R (Ending.returned (Value.bool false)) w16)
        (
         LetA (Obj.cells #[Value.int IntKind.i64 (0 : Int), Value.int IntKind.i64 (0 : Int), Value.int IntKind.i64 (0 : Int), Value.int IntKind.i64 (0 : Int), Value.int IntKind.i64 (0 : Int)] (41 : Nat)) w16 fun b18 w19 =>
         LetI (IntKind.i64.wrap (n6 + (1 : Int))) fun n20 =>
         ∃ k21 : Nat,
         (
          k21 < k7) ∧
         I2 k21 [Value.bool b4, Value.pointer (some { block := b18, off := (0 : Nat) }), Value.int IntKind.i64 n20] w19))))
  (
   Ca Try.prog (6 : Nat) #[] w8 fun e22 w23 =>
   ∃ b24 : Bool,
   (
    e22 = Ending.returned (Value.bool b24)) ∧
   R (Ending.returned (Value.bool b24)) w23)
theorem lawNone_ok (n1 : Int) (w : World) (R : Ending → World → Prop) (h : lawNone n1 w R) : Ca Try.prog 5 #[Value.int IntKind.i64 n1] w R :=
  Ca.of_fvc (c := bodyOf Try.f5) (by kernel_rfl) Try.func5 (by kernel_rfl) [] (Eq.mp (by kernel_rfl) h)

def lawPlay (n1 : Int) (n2 : Int) (p3 : Option Addr) (k4 : Nat) (_k5 : Nat) (w : World) (R : Ending → World → Prop) : Prop :=
 Br (decide ((↑k4 : Int) > (150 : Int)))
  (
   Ca Try.prog (6 : Nat) #[] w fun e6 w7 =>
   ∃ b8 : Bool,
   (
    e6 = Ending.returned (Value.bool b8)) ∧
   R (Ending.returned (Value.bool b8)) w7)
  (
   Ca Try.prog (7 : Nat) #[Value.int IntKind.i64 n1, Value.int IntKind.i64 n2] w fun e9 w10 =>
   ∃ p11 : Option Addr,
   ∃ n12 : Int,
   (
    e9 = Ending.returned (Value.tuple #[Value.pointer p11, Value.int IntKind.i64 n12])) ∧
   Ca Try.prog (10 : Nat) #[Value.int IntKind.i64 n1, Value.int IntKind.i64 n2] w10 fun e13 w14 =>
   ∃ p15 : Option Addr,
   ∃ n16 : Int,
   (
    e13 = Ending.returned (Value.tuple #[Value.pointer p15, Value.int IntKind.i64 n16])) ∧
   Br (n12 != n16)
    (
     Br (n12 == n16)
      (
       Br (p11.isNone)
        (
         Ca Try.prog (6 : Nat) #[] w14 fun e17 w18 =>
         ∃ b19 : Bool,
         (
          e17 = Ending.returned (Value.bool b19)) ∧
         R (Ending.returned (Value.bool b19)) w18)
        (
         R (Ending.returned (Value.bool false)) w14))
      (
       R (Ending.returned (Value.bool false)) w14))
    (
     Br (n16 != (0 : Int))
      (
       Br (n12 == n16)
        (
         Br (p11.isNone)
          (
           Ca Try.prog (6 : Nat) #[] w14 fun e20 w21 =>
           ∃ b22 : Bool,
           (
            e20 = Ending.returned (Value.bool b22)) ∧
           R (Ending.returned (Value.bool b22)) w21)
          (
           R (Ending.returned (Value.bool false)) w14))
        (
         R (Ending.returned (Value.bool false)) w14))
      (
       ∃ I23 : Nat → List Value → World → Prop,
       (
        ∃ k24 : Nat,
        I23 k24 [Value.bool false, Value.int IntKind.i64 (0 : Int)] w14) ∧
       ∀ b25 : Bool,
       ∀ n26 : Int,
       ∀ k27 : Nat,
       ∀ w28 : World,
       (
        I23 k27 [Value.bool b25, Value.int IntKind.i64 n26] w28) →
       Br (decide (n26 < (↑k4 : Int)))
        (
         NilOk p3 fun a29 =>
         (
          (
           (0 : Int) ≤ n26) ∧
          n26 < (↑k4 : Int)) ∧
         ∃ n30 : Int,
         ∃ n31 : Int,
         (
          Row w28 (a29.add (n26.toNat * (2 : Nat))) (0 : Nat) [Value.int IntKind.u8 n30, Value.int IntKind.i64 n31]) ∧
         LetA (Obj.cells #[Value.int IntKind.u8 (0 : Int), Value.int IntKind.i64 (0 : Int)] (37 : Nat)) w28 fun b32 w33 =>
         (
          WrRow w33 { block := b32, off := (0 : Nat) } (0 : Nat) [Value.int IntKind.u8 n30, Value.int IntKind.i64 n31]) ∧
         LetW (setRow w33 { block := b32, off := (0 : Nat) } (0 : Nat) [Value.int IntKind.u8 n30, Value.int IntKind.i64 n31]) fun w34 =>
         ∃ n35 : Int,
         (
          w34.cell? { block := b32, off := (0 : Nat) } = some (Value.int IntKind.u8 n35)) ∧
         (
          (5 : Int) ≠ (0 : Int)) ∧
         LetI (n35.tmod (5 : Int)) fun n36 =>
         Br (n36 == (3 : Int))
          (
           ∃ n37 : Int,
           (
            w34.cell? { block := b32, off := (1 : Nat) } = some (Value.int IntKind.i64 n37)) ∧
           ∃ n38 : Int,
           (
            w34.cell? { block := b32, off := (1 : Nat) } = some (Value.int IntKind.i64 n38)) ∧
           Ca Try.prog (8 : Nat) #[Value.pointer p11, Value.int IntKind.i64 n37] w34 fun e39 w40 =>
           ∃ n41 : Int,
           (
            e39 = Ending.returned (Value.int IntKind.i64 n41)) ∧
           (
            w40.cell? { block := b32, off := (1 : Nat) } = some (Value.int IntKind.i64 n38)) ∧
           Ca Try.prog (11 : Nat) #[Value.pointer p15, Value.int IntKind.i64 n38] w40 fun e42 w43 =>
           ∃ n44 : Int,
           (
            e42 = Ending.returned (Value.int IntKind.i64 n44)) ∧
           Br (n41 != n44)
            (
             R (Ending.returned (Value.bool false)) w43)
            (
             LetI (IntKind.i64.wrap (n26 + (1 : Int))) fun n45 =>
             ∃ k46 : Nat,
             (
              k46 < k27) ∧
             I23 k46 [Value.bool b25, Value.int IntKind.i64 n45] w43))
          (
           Br (n36 == (4 : Int))
            (
             Ca Try.prog (12 : Nat) #[Value.pointer p11] w34 fun e47 w48 =>
             ∃ p49 : Option Addr,
             (
              e47 = Ending.returned (Value.pointer p49)) ∧
             Ca Try.prog (9 : Nat) #[Value.pointer p49, Value.int IntKind.i64 (1099511627776 : Int)] w48 fun e50 w51 =>
             ∃ b52 : Bool,
             (
              e50 = Ending.returned (Value.bool b52)) ∧
             LetI (IntKind.i64.wrap (n26 + (1 : Int))) fun n53 =>
             ∃ k54 : Nat,
             (
              k54 < k27) ∧
             I23 k54 [Value.bool b25, Value.int IntKind.i64 n53] w51)
            (
             ∃ n55 : Int,
             (
              w34.cell? { block := b32, off := (1 : Nat) } = some (Value.int IntKind.i64 n55)) ∧
             ∃ n56 : Int,
             (
              w34.cell? { block := b32, off := (1 : Nat) } = some (Value.int IntKind.i64 n56)) ∧
             Ca Try.prog (9 : Nat) #[Value.pointer p11, Value.int IntKind.i64 n55] w34 fun e57 w58 =>
             ∃ b59 : Bool,
             (
              e57 = Ending.returned (Value.bool b59)) ∧
             (
              w58.cell? { block := b32, off := (1 : Nat) } = some (Value.int IntKind.i64 n56)) ∧
             Ca Try.prog (13 : Nat) #[Value.pointer p15, Value.int IntKind.i64 n56] w58 fun e60 w61 =>
             ∃ b62 : Bool,
             (
              e60 = Ending.returned (Value.bool b62)) ∧
             Br (!b59 == b62)
              (
               R (Ending.returned (Value.bool false)) w61)
              (
               LetI (IntKind.i64.wrap (n26 + (1 : Int))) fun n63 =>
               ∃ k64 : Nat,
               (
                k64 < k27) ∧
               I23 k64 [Value.bool b25, Value.int IntKind.i64 n63] w61))))
        (
         Ca Try.prog (12 : Nat) #[Value.pointer p11] w28 fun e65 w66 =>
         ∃ p67 : Option Addr,
         (
          e65 = Ending.returned (Value.pointer p67)) ∧
         Ca Try.prog (8 : Nat) #[Value.pointer p67, Value.int IntKind.i64 (0 : Int)] w66 fun e68 w69 =>
         ∃ n70 : Int,
         (
          e68 = Ending.returned (Value.int IntKind.i64 n70)) ∧
         Ca Try.prog (11 : Nat) #[Value.pointer p15, Value.int IntKind.i64 (0 : Int)] w69 fun e71 w72 =>
         ∃ n73 : Int,
         (
          e71 = Ending.returned (Value.int IntKind.i64 n73)) ∧
         Br (n70 == n73)
          (
           Ca Try.prog (8 : Nat) #[Value.pointer p11, Value.int IntKind.i64 (-1 : Int)] w72 fun e74 w75 =>
           ∃ n76 : Int,
           (
            e74 = Ending.returned (Value.int IntKind.i64 n76)) ∧
           Ca Try.prog (11 : Nat) #[Value.pointer p15, Value.int IntKind.i64 (-1 : Int)] w75 fun e77 w78 =>
           ∃ n79 : Int,
           (
            e77 = Ending.returned (Value.int IntKind.i64 n79)) ∧
           Br (n76 == n79)
            (
             Ca Try.prog (6 : Nat) #[] w78 fun e80 w81 =>
             ∃ b82 : Bool,
             (
              e80 = Ending.returned (Value.bool b82)) ∧
             R (Ending.returned (Value.bool b82)) w81)
            (
             R (Ending.returned (Value.bool false)) w78))
          (
           R (Ending.returned (Value.bool false)) w72)))))
theorem lawPlay_ok (n1 : Int) (n2 : Int) (p3 : Option Addr) (k4 : Nat) (k5 : Nat) (w : World) (R : Ending → World → Prop) (h : lawPlay n1 n2 p3 k4 k5 w R) : Ca Try.prog 4 #[Value.int IntKind.i64 n1, Value.int IntKind.i64 n2, Value.slice p3 k4 k5] w R :=
  Ca.of_fvc (c := bodyOf Try.f4) (by kernel_rfl) Try.func4 (by kernel_rfl) [] (Eq.mp (by kernel_rfl) h)

def lawFew (n1 : Int) (n2 : Int) (p3 : Option Addr) (k4 : Nat) (_k5 : Nat) (w : World) (R : Ending → World → Prop) : Prop :=
 Br (decide ((↑k4 : Int) > (150 : Int)))
  (
   Ca Try.prog (6 : Nat) #[] w fun e6 w7 =>
   ∃ b8 : Bool,
   (
    e6 = Ending.returned (Value.bool b8)) ∧
   R (Ending.returned (Value.bool b8)) w7)
  (
   LetI (IntKind.i64.wrap n1) fun n9 =>
   (
    (17 : Int) ≠ (0 : Int)) ∧
   LetI (n9.tmod (17 : Int)) fun n10 =>
   LetI (IntKind.i64.wrap n2) fun n11 =>
   (
    (64 : Int) ≠ (0 : Int)) ∧
   LetI (n11.tmod (64 : Int)) fun n12 =>
   LetI (IntKind.i64.wrap ((1 : Int) + n12)) fun n13 =>
   Ca Try.prog (7 : Nat) #[Value.int IntKind.i64 n10, Value.int IntKind.i64 n13] w fun e14 w15 =>
   ∃ p16 : Option Addr,
   ∃ n17 : Int,
   (
    e14 = Ending.returned (Value.tuple #[Value.pointer p16, Value.int IntKind.i64 n17])) ∧
   Br (n17 != (0 : Int))
    (
     R (Ending.returned (Value.bool false)) w15)
    (
     ∃ I18 : Nat → List Value → World → Prop,
     (
      ∃ k19 : Nat,
      I18 k19 [Value.int IntKind.i64 (0 : Int), Value.bool false, Value.slice none (0 : Nat) (0 : Nat), Value.int IntKind.i64 (0 : Int)] w15) ∧
     ∀ n20 : Int,
     ∀ b21 : Bool,
     ∀ p22 : Option Addr,
     ∀ k23 : Nat,
     ∀ k24 : Nat,
     ∀ n25 : Int,
     ∀ k26 : Nat,
     ∀ w27 : World,
     (
      I18 k26 [Value.int IntKind.i64 n20, Value.bool b21, Value.slice p22 k23 k24, Value.int IntKind.i64 n25] w27) →
     Br (decide (n25 < (↑k4 : Int)))
      (
       NilOk p3 fun a28 =>
       (
        (
         (0 : Int) ≤ n25) ∧
        n25 < (↑k4 : Int)) ∧
       ∃ n29 : Int,
       (
        w27.cell? (a28.add (n25.toNat * (1 : Nat))) = some (Value.int IntKind.u8 n29)) ∧
       LetI (IntKind.i64.wrap n29) fun n30 =>
       LetI (IntKind.i64.wrap (n20 + n30)) fun n31 =>
       Ca Try.prog (8 : Nat) #[Value.pointer p16, Value.int IntKind.i64 n31] w27 fun e32 w33 =>
       ∃ n34 : Int,
       (
        e32 = Ending.returned (Value.int IntKind.i64 n34)) ∧
       Br (decide (n34 < (0 : Int)))
        (
         R (Ending.returned (Value.bool false)) w33)
        (
         Br (decide (n34 > n10))
          (
           R (Ending.returned (Value.bool false)) w33)
          (
           Ca Try.prog (9 : Nat) #[Value.pointer p16, Value.int IntKind.i64 n31] w33 fun e35 w36 =>
           ∃ b37 : Bool,
           (
            e35 = Ending.returned (Value.bool b37)) ∧
           Br (!b37 == decide (n34 > (0 : Int)))
            (
             R (Ending.returned (Value.bool false)) w36)
            (
             Br (decide (n34 > (0 : Int)))
              (
               Ca Try.prog (8 : Nat) #[Value.pointer p16, Value.int IntKind.i64 n31] w36 fun e38 w39 =>
               ∃ n40 : Int,
               (
                e38 = Ending.returned (Value.int IntKind.i64 n40)) ∧
               LetI (IntKind.i64.wrap (n34 - (1 : Int))) fun n41 =>
               Br (n40 != n41)
                (
                 R (Ending.returned (Value.bool false)) w39)
                (
                 Br (decide (n34 > (0 : Int)))
                  (
                   LetA (Obj.cells #[Value.int IntKind.i64 n31] (3 : Nat)) w39 fun b42 w43 =>
                   RunsV Try.prog (Builtin.append_ #[(28 : Nat), (28 : Nat)] (28 : Nat) #[Value.slice p22 k23 k24, Value.slice (some { block := b42, off := (0 : Nat) }) (1 : Nat) (1 : Nat)]) w43 fun v44 w45 =>
                   ∃ p46 : Option Addr,
                   ∃ k47 : Nat,
                   ∃ k48 : Nat,
                   (
                    v44 = Value.slice p46 k47 k48) ∧
                   LetI (IntKind.i64.wrap (n25 + (1 : Int))) fun n49 =>
                   ∃ k50 : Nat,
                   (
                    k50 < k26) ∧
                   I18 k50 [Value.int IntKind.i64 n31, Value.bool b21, Value.slice p46 k47 k48, Value.int IntKind.i64 n49] w45)
                  (
                   LetI (IntKind.i64.wrap (n25 + (1 : Int))) fun n51 =>
                   ∃ k52 : Nat,
                   (
                    k52 < k26) ∧
                   I18 k52 [Value.int IntKind.i64 n31, Value.bool b21, Value.slice p22 k23 k24, Value.int IntKind.i64 n51] w39)))
              (
               Br (decide (n34 > (0 : Int)))
                (
                 LetA (Obj.cells #[Value.int IntKind.i64 n31] (3 : Nat)) w36 fun b53 w54 =>
                 RunsV Try.prog (Builtin.append_ #[(28 : Nat), (28 : Nat)] (28 : Nat) #[Value.slice p22 k23 k24, Value.slice (some { block := b53, off := (0 : Nat) }) (1 : Nat) (1 : Nat)]) w54 fun v55 w56 =>
                 ∃ p57 : Option Addr,
                 ∃ k58 : Nat,
                 ∃ k59 : Nat,
                 (
                  v55 = Value.slice p57 k58 k59) ∧
                 LetI (IntKind.i64.wrap (n25 + (1 : Int))) fun n60 =>
                 ∃ k61 : Nat,
                 (
                  k61 < k26) ∧
                 I18 k61 [Value.int IntKind.i64 n31, Value.bool b21, Value.slice p57 k58 k59, Value.int IntKind.i64 n60] w56)
                (
                 LetI (IntKind.i64.wrap (n25 + (1 : Int))) fun n62 =>
                 ∃ k63 : Nat,
                 (
                  k63 < k26) ∧
                 I18 k63 [Value.int IntKind.i64 n31, Value.bool b21, Value.slice p22 k23 k24, Value.int IntKind.i64 n62] w36))))))
      (
       ∃ I64 : Nat → List Value → World → Prop,
       (
        ∃ k65 : Nat,
        I64 k65 [Value.bool b21, Value.int IntKind.i64 (0 : Int)] w27) ∧
       ∀ b66 : Bool,
       ∀ n67 : Int,
       ∀ k68 : Nat,
       ∀ w69 : World,
       (
        I64 k68 [Value.bool b66, Value.int IntKind.i64 n67] w69) →
       Br (decide (n67 < (↑k23 : Int)))
        (
         ∃ I70 : Nat → List Value → World → Prop,
         (
          ∃ k71 : Nat,
          I70 k71 [Value.bool b66, Value.int IntKind.i64 n67] w69) ∧
         ∀ b72 : Bool,
         ∀ n73 : Int,
         ∀ k74 : Nat,
         ∀ w75 : World,
         (
          I70 k74 [Value.bool b72, Value.int IntKind.i64 n73] w75) →
         Br (decide (n73 < (↑k23 : Int)))
          (
           LetI (IntKind.i64.wrap (n73 - n67)) fun n76 =>
           LetI (IntKind.i64.wrap (n76 + (1 : Int))) fun n77 =>
           NilOk p22 fun a78 =>
           (
            (
             (0 : Int) ≤ n73) ∧
            n73 < (↑k23 : Int)) ∧
           ∃ n79 : Int,
           (
            w75.cell? (a78.add (n73.toNat * (1 : Nat))) = some (Value.int IntKind.i64 n79)) ∧
           NilOk p22 fun a80 =>
           (
            (
             (0 : Int) ≤ n67) ∧
            n67 < (↑k23 : Int)) ∧
           ∃ n81 : Int,
           (
            w75.cell? (a80.add (n67.toNat * (1 : Nat))) = some (Value.int IntKind.i64 n81)) ∧
           LetI (IntKind.i64.wrap (n79 - n81)) fun n82 =>
           (
            n13 ≠ (0 : Int)) ∧
           LetI (IntKind.i64.wrap (n82.tdiv n13)) fun n83 =>
           LetI (IntKind.i64.wrap (n10 + n83)) fun n84 =>
           Br (decide (n77 > n84))
            (
             R (Ending.returned (Value.bool false)) w75)
            (
             LetI (IntKind.i64.wrap (n73 + (1 : Int))) fun n85 =>
             ∃ k86 : Nat,
             (
              k86 < k74) ∧
             I70 k86 [Value.bool b72, Value.int IntKind.i64 n85] w75))
          (
           LetI (IntKind.i64.wrap (n67 + (1 : Int))) fun n87 =>
           ∃ k88 : Nat,
           (
            k88 < k68) ∧
           I64 k88 [Value.bool b72, Value.int IntKind.i64 n87] w75))
        (
         LetI (IntKind.i64.wrap (n10 * n13)) fun n89 =>
         LetI (IntKind.i64.wrap (n20 + n89)) fun n90 =>
         Ca Try.prog (8 : Nat) #[Value.pointer p16, Value.int IntKind.i64 n90] w69 fun e91 w92 =>
         ∃ n93 : Int,
         (
          e91 = Ending.returned (Value.int IntKind.i64 n93)) ∧
         Br (n93 == n10)
          (
           Ca Try.prog (6 : Nat) #[] w92 fun e94 w95 =>
           ∃ b96 : Bool,
           (
            e94 = Ending.returned (Value.bool b96)) ∧
           R (Ending.returned (Value.bool b96)) w95)
          (
           R (Ending.returned (Value.bool false)) w92)))))
theorem lawFew_ok (n1 : Int) (n2 : Int) (p3 : Option Addr) (k4 : Nat) (k5 : Nat) (w : World) (R : Ending → World → Prop) (h : lawFew n1 n2 p3 k4 k5 w R) : Ca Try.prog 3 #[Value.int IntKind.u8 n1, Value.int IntKind.u8 n2, Value.slice p3 k4 k5] w R :=
  Ca.of_fvc (c := bodyOf Try.f3) (by kernel_rfl) Try.func3 (by kernel_rfl) [] (Eq.mp (by kernel_rfl) h)

end Go.Proofs.Ytmhdplflflgbkaa
