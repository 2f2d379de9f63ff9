/- The verification conditions of this seat's functions, printed by a program; the kernel holds each against the loaded code. -/
import Derived.Test.YtfmgjffdompohaaProg
import Derived.KernelRfl
import Derived.Test.YtfmgjffdompohaaV5
set_option maxRecDepth 100000
namespace Go.Proofs.Ytfmgjffdompohaa
open Go Go.Vc Go.Proofs
def add (n1 : Int) (n2 : Int) (w : World) (R : Ending → World → Prop) : Prop :=
 LetI (IntKind.i64.wrap (n1 + n2)) fun n3 =>
 Br (decide (n2 > (0 : Int)))
  (
   Br (decide (n3 < n1))
    (
     R (Ending.returned (Value.int IntKind.i64 (9223372036854775807 : Int))) w)
    (
     Br (decide (n2 < (0 : Int)))
      (
       Br (decide (n3 > n1))
        (
         R (Ending.returned (Value.int IntKind.i64 (-9223372036854775808 : Int))) w)
        (
         R (Ending.returned (Value.int IntKind.i64 n3)) w))
      (
       R (Ending.returned (Value.int IntKind.i64 n3)) w)))
  (
   Br (decide (n2 < (0 : Int)))
    (
     Br (decide (n3 > n1))
      (
       R (Ending.returned (Value.int IntKind.i64 (-9223372036854775808 : Int))) w)
      (
       R (Ending.returned (Value.int IntKind.i64 n3)) w))
    (
     R (Ending.returned (Value.int IntKind.i64 n3)) w))
theorem add_ok (n1 : Int) (n2 : Int) (w : World) (R : Ending → World → Prop) (h : add n1 n2 w R) : Ca Try.prog 6 #[Value.int IntKind.i64 n1, Value.int IntKind.i64 n2] w R :=
  Ca.of_fvc (c := bodyOf Try.f6) (by kernel_rfl) Try.func6 (by kernel_rfl) [] (Eq.mp (by kernel_rfl) h)

def radd (n1 : Int) (n2 : Int) (w : World) (R : Ending → World → Prop) : Prop :=
 Br (decide (n2 ≥ (0 : Int)))
  (
   Ca Try.prog (19 : Nat) #[] w fun e3 w4 =>
   ∃ n5 : Int,
   (
    e3 = Ending.returned (Value.int IntKind.i64 n5)) ∧
   LetI (IntKind.i64.wrap (n5 - n2)) fun n6 =>
   Br (decide (n1 > n6))
    (
     Ca Try.prog (19 : Nat) #[] w4 fun e7 w8 =>
     ∃ n9 : Int,
     (
      e7 = Ending.returned (Value.int IntKind.i64 n9)) ∧
     R (Ending.returned (Value.int IntKind.i64 n9)) w8)
    (
     LetI (IntKind.i64.wrap (n1 + n2)) fun n10 =>
     R (Ending.returned (Value.int IntKind.i64 n10)) w4))
  (
   Ca Try.prog (20 : Nat) #[] w fun e11 w12 =>
   ∃ n13 : Int,
   (
    e11 = Ending.returned (Value.int IntKind.i64 n13)) ∧
   LetI (IntKind.i64.wrap (n13 - n2)) fun n14 =>
   Br (decide (n1 < n14))
    (
     Ca Try.prog (20 : Nat) #[] w12 fun e15 w16 =>
     ∃ n17 : Int,
     (
      e15 = Ending.returned (Value.int IntKind.i64 n17)) ∧
     R (Ending.returned (Value.int IntKind.i64 n17)) w16)
    (
     LetI (IntKind.i64.wrap (n1 + n2)) fun n18 =>
     R (Ending.returned (Value.int IntKind.i64 n18)) w12))
theorem radd_ok (n1 : Int) (n2 : Int) (w : World) (R : Ending → World → Prop) (h : radd n1 n2 w R) : Ca Try.prog 7 #[Value.int IntKind.i64 n1, Value.int IntKind.i64 n2] w R :=
  Ca.of_fvc (c := bodyOf Try.f7) (by kernel_rfl) Try.func7 (by kernel_rfl) [] (Eq.mp (by kernel_rfl) h)

def sub (n1 : Int) (n2 : Int) (w : World) (R : Ending → World → Prop) : Prop :=
 LetI (IntKind.i64.wrap (n1 - n2)) fun n3 =>
 Br (decide (n2 < (0 : Int)))
  (
   Br (decide (n3 < n1))
    (
     R (Ending.returned (Value.int IntKind.i64 (9223372036854775807 : Int))) w)
    (
     Br (decide (n2 > (0 : Int)))
      (
       Br (decide (n3 > n1))
        (
         R (Ending.returned (Value.int IntKind.i64 (-9223372036854775808 : Int))) w)
        (
         R (Ending.returned (Value.int IntKind.i64 n3)) w))
      (
       R (Ending.returned (Value.int IntKind.i64 n3)) w)))
  (
   Br (decide (n2 > (0 : Int)))
    (
     Br (decide (n3 > n1))
      (
       R (Ending.returned (Value.int IntKind.i64 (-9223372036854775808 : Int))) w)
      (
       R (Ending.returned (Value.int IntKind.i64 n3)) w))
    (
     R (Ending.returned (Value.int IntKind.i64 n3)) w))
theorem sub_ok (n1 : Int) (n2 : Int) (w : World) (R : Ending → World → Prop) (h : sub n1 n2 w R) : Ca Try.prog 8 #[Value.int IntKind.i64 n1, Value.int IntKind.i64 n2] w R :=
  Ca.of_fvc (c := bodyOf Try.f8) (by kernel_rfl) Try.func8 (by kernel_rfl) [] (Eq.mp (by kernel_rfl) h)

def rsub (n1 : Int) (n2 : Int) (w : World) (R : Ending → World → Prop) : Prop :=
 Br (decide (n2 ≥ (0 : Int)))
  (
   Ca Try.prog (20 : Nat) #[] w fun e3 w4 =>
   ∃ n5 : Int,
   (
    e3 = Ending.returned (Value.int IntKind.i64 n5)) ∧
   LetI (IntKind.i64.wrap (n5 + n2)) fun n6 =>
   Br (decide (n1 < n6))
    (
     Ca Try.prog (20 : Nat) #[] w4 fun e7 w8 =>
     ∃ n9 : Int,
     (
      e7 = Ending.returned (Value.int IntKind.i64 n9)) ∧
     R (Ending.returned (Value.int IntKind.i64 n9)) w8)
    (
     LetI (IntKind.i64.wrap (n1 - n2)) fun n10 =>
     R (Ending.returned (Value.int IntKind.i64 n10)) w4))
  (
   Ca Try.prog (19 : Nat) #[] w fun e11 w12 =>
   ∃ n13 : Int,
   (
    e11 = Ending.returned (Value.int IntKind.i64 n13)) ∧
   LetI (IntKind.i64.wrap (n13 + n2)) fun n14 =>
   Br (decide (n1 > n14))
    (
     Ca Try.prog (19 : Nat) #[] w12 fun e15 w16 =>
     ∃ n17 : Int,
     (
      e15 = Ending.returned (Value.int IntKind.i64 n17)) ∧
     R (Ending.returned (Value.int IntKind.i64 n17)) w16)
    (
     LetI (IntKind.i64.wrap (n1 - n2)) fun n18 =>
     R (Ending.returned (Value.int IntKind.i64 n18)) w12))
theorem rsub_ok (n1 : Int) (n2 : Int) (w : World) (R : Ending → World → Prop) (h : rsub n1 n2 w R) : Ca Try.prog 9 #[Value.int IntKind.i64 n1, Value.int IntKind.i64 n2] w R :=
  Ca.of_fvc (c := bodyOf Try.f9) (by kernel_rfl) Try.func9 (by kernel_rfl) [] (Eq.mp (by kernel_rfl) h)

def mul (n1 : Int) (n2 : Int) (w : World) (R : Ending → World → Prop) : Prop :=
 Br (n1 == (0 : Int))
  (
   R (Ending.returned (Value.int IntKind.i64 (0 : Int))) w)
  (
   Br (n2 == (0 : Int))
    (
     R (Ending.returned (Value.int IntKind.i64 (0 : Int))) w)
    (
     LetI (IntKind.i64.wrap (n1 * n2)) fun n3 =>
     (
      n2 ≠ (0 : Int)) ∧
     LetI (IntKind.i64.wrap (n3.tdiv n2)) fun n4 =>
     Br (n4 == n1)
      (
       Br (n1 == (-1 : Int))
        (
         Br (!n2 == (-9223372036854775808 : Int))
          (
           Br (n2 == (-1 : Int))
            (
             Br (!n1 == (-9223372036854775808 : Int))
              (
               R (Ending.returned (Value.int IntKind.i64 n3)) w)
              (
               Br (decide (n1 < (0 : Int)) == decide (n2 < (0 : Int)))
                (
                 R (Ending.returned (Value.int IntKind.i64 (9223372036854775807 : Int))) w)
                (
                 R (Ending.returned (Value.int IntKind.i64 (-9223372036854775808 : Int))) w)))
            (
             R (Ending.returned (Value.int IntKind.i64 n3)) w))
          (
           Br (decide (n1 < (0 : Int)) == decide (n2 < (0 : Int)))
            (
             R (Ending.returned (Value.int IntKind.i64 (9223372036854775807 : Int))) w)
            (
             R (Ending.returned (Value.int IntKind.i64 (-9223372036854775808 : Int))) w)))
        (
         Br (n2 == (-1 : Int))
          (
           Br (!n1 == (-9223372036854775808 : Int))
            (
             R (Ending.returned (Value.int IntKind.i64 n3)) w)
            (
             Br (decide (n1 < (0 : Int)) == decide (n2 < (0 : Int)))
              (
               R (Ending.returned (Value.int IntKind.i64 (9223372036854775807 : Int))) w)
              (
               R (Ending.returned (Value.int IntKind.i64 (-9223372036854775808 : Int))) w)))
          (
           R (Ending.returned (Value.int IntKind.i64 n3)) w)))
      (
       Br (decide (n1 < (0 : Int)) == decide (n2 < (0 : Int)))
        (
         R (Ending.returned (Value.int IntKind.i64 (9223372036854775807 : Int))) w)
        (
         R (Ending.returned (Value.int IntKind.i64 (-9223372036854775808 : Int))) w))))
theorem mul_ok (n1 : Int) (n2 : Int) (w : World) (R : Ending → World → Prop) (h : mul n1 n2 w R) : Ca Try.prog 10 #[Value.int IntKind.i64 n1, Value.int IntKind.i64 n2] w R :=
  Ca.of_fvc (c := bodyOf Try.f10) (by kernel_rfl) Try.func10 (by kernel_rfl) [] (Eq.mp (by kernel_rfl) h)

def rmul (n1 : Int) (n2 : Int) (w : World) (R : Ending → World → Prop) : Prop :=
 Ca Try.prog (21 : Nat) #[Value.int IntKind.i64 n1] w fun e3 w4 =>
 ∃ n5 : Int,
 (
  e3 = Ending.returned (Value.int IntKind.u64 n5)) ∧
 Ca Try.prog (21 : Nat) #[Value.int IntKind.i64 n2] w4 fun e6 w7 =>
 ∃ n8 : Int,
 (
  e6 = Ending.returned (Value.int IntKind.u64 n8)) ∧
 Ca Try.prog (19 : Nat) #[] w7 fun e9 w10 =>
 ∃ n11 : Int,
 (
  e9 = Ending.returned (Value.int IntKind.i64 n11)) ∧
 LetI (IntKind.u64.wrap n11) fun n12 =>
 ∃ I13 : List Value → World → Prop,
 (
  Br (!decide (n1 < (0 : Int)) == decide (n2 < (0 : Int)))
   (
    LetI (IntKind.u64.wrap (n12 + (1 : Int))) fun n14 =>
    I13 [Value.int IntKind.u64 n14] w10)
   (
    I13 [Value.int IntKind.u64 n12] w10)) ∧
 ∀ n15 : Int,
 ∀ w16 : World,
 (
  I13 [Value.int IntKind.u64 n15] w16) →
 ∃ I17 : List Value → World → Prop,
 (
  Br (n5 != (0 : Int))
   (
    (
     n5 ≠ (0 : Int)) ∧
    LetI (IntKind.u64.wrap (n15.tdiv n5)) fun n18 =>
    Br (decide (n8 > n18))
     (
      Br (!decide (n1 < (0 : Int)) == decide (n2 < (0 : Int)))
       (
        Ca Try.prog (20 : Nat) #[] w16 fun e19 w20 =>
        ∃ n21 : Int,
        (
         e19 = Ending.returned (Value.int IntKind.i64 n21)) ∧
        R (Ending.returned (Value.int IntKind.i64 n21)) w20)
       (
        Ca Try.prog (19 : Nat) #[] w16 fun e22 w23 =>
        ∃ n24 : Int,
        (
         e22 = Ending.returned (Value.int IntKind.i64 n24)) ∧
        R (Ending.returned (Value.int IntKind.i64 n24)) w23))
     (
      I17 [Value.int IntKind.i64 (0 : Int)] w16))
   (
    I17 [Value.int IntKind.i64 (0 : Int)] w16)) ∧
 ∀ n25 : Int,
 ∀ w26 : World,
 (
  I17 [Value.int IntKind.i64 n25] w26) →
 Br (!decide (n1 < (0 : Int)) == decide (n2 < (0 : Int)))
  (
   LetI (IntKind.u64.wrap (n5 * n8)) fun n27 =>
   Br (decide (n27 > (0 : Int)))
    (
     LetI (IntKind.u64.wrap (n5 * n8)) fun n28 =>
     LetI (IntKind.u64.wrap (n28 - (1 : Int))) fun n29 =>
     LetI (IntKind.i64.wrap n29) fun n30 =>
     LetI (IntKind.i64.wrap (IntKind.i64.wrap ((0 : Int) - n30) - (1 : Int))) fun n31 =>
     R (Ending.returned (Value.int IntKind.i64 n31)) w26)
    (
     LetI (IntKind.u64.wrap (n5 * n8)) fun n32 =>
     LetI (IntKind.i64.wrap n32) fun n33 =>
     R (Ending.returned (Value.int IntKind.i64 n33)) w26))
  (
   LetI (IntKind.u64.wrap (n5 * n8)) fun n34 =>
   LetI (IntKind.i64.wrap n34) fun n35 =>
   R (Ending.returned (Value.int IntKind.i64 n35)) w26)
theorem rmul_ok (n1 : Int) (n2 : Int) (w : World) (R : Ending → World → Prop) (h : rmul n1 n2 w R) : Ca Try.prog 11 #[Value.int IntKind.i64 n1, Value.int IntKind.i64 n2] w R :=
  Ca.of_fvc (c := bodyOf Try.f11) (by kernel_rfl) Try.func11 (by kernel_rfl) [6, 10] (Eq.mp (by kernel_rfl) h)

def clamp (n1 : Int) (n2 : Int) (n3 : Int) (w : World) (R : Ending → World → Prop) : Prop :=
 LetI (min n1 n3) fun n4 =>
 LetI (max n2 n4) fun n5 =>
 R (Ending.returned (Value.int IntKind.i64 n5)) w
theorem clamp_ok (n1 : Int) (n2 : Int) (n3 : Int) (w : World) (R : Ending → World → Prop) (h : clamp n1 n2 n3 w R) : Ca Try.prog 12 #[Value.int IntKind.i64 n1, Value.int IntKind.i64 n2, Value.int IntKind.i64 n3] w R :=
  Ca.of_fvc (c := bodyOf Try.f12) (by kernel_rfl) Try.func12 (by kernel_rfl) [] (Eq.mp (by kernel_rfl) h)

def rclamp (n1 : Int) (n2 : Int) (n3 : Int) (w : World) (R : Ending → World → Prop) : Prop :=
 ∃ I4 : List Value → World → Prop,
 (
  I4 [] w) ∧
 ∀ w5 : World,
 (
  I4 [] w5) →
 Br (decide (n1 > n3))
  (
   Br (decide (n3 < n2))
    (
     R (Ending.returned (Value.int IntKind.i64 n2)) w5)
    (
     R (Ending.returned (Value.int IntKind.i64 n3)) w5))
  (
   Br (decide (n1 < n2))
    (
     R (Ending.returned (Value.int IntKind.i64 n2)) w5)
    (
     R (Ending.returned (Value.int IntKind.i64 n1)) w5))
theorem rclamp_ok (n1 : Int) (n2 : Int) (n3 : Int) (w : World) (R : Ending → World → Prop) (h : rclamp n1 n2 n3 w R) : Ca Try.prog 13 #[Value.int IntKind.i64 n1, Value.int IntKind.i64 n2, Value.int IntKind.i64 n3] w R :=
  Ca.of_fvc (c := bodyOf Try.f13) (by kernel_rfl) Try.func13 (by kernel_rfl) [1] (Eq.mp (by kernel_rfl) h)

def ceil (n1 : Int) (n2 : Int) (w : World) (R : Ending → World → Prop) : Prop :=
 Br (decide (n1 < (0 : Int)))
  (
   R (Ending.returned (Value.int IntKind.i64 (0 : Int))) w)
  (
   Br (decide (n2 < (1 : Int)))
    (
     R (Ending.returned (Value.int IntKind.i64 (0 : Int))) w)
    (
     (
      n2 ≠ (0 : Int)) ∧
     LetI (IntKind.i64.wrap (n1.tdiv n2)) fun n3 =>
     (
      n2 ≠ (0 : Int)) ∧
     LetI (n1.tmod n2) fun n4 =>
     Br (decide (n4 > (0 : Int)))
      (
       LetI (IntKind.i64.wrap (n3 + (1 : Int))) fun n5 =>
       R (Ending.returned (Value.int IntKind.i64 n5)) w)
      (
       R (Ending.returned (Value.int IntKind.i64 n3)) w)))
theorem ceil_ok (n1 : Int) (n2 : Int) (w : World) (R : Ending → World → Prop) (h : ceil n1 n2 w R) : Ca Try.prog 14 #[Value.int IntKind.i64 n1, Value.int IntKind.i64 n2] w R :=
  Ca.of_fvc (c := bodyOf Try.f14) (by kernel_rfl) Try.func14 (by kernel_rfl) [] (Eq.mp (by kernel_rfl) h)

def rceil (n1 : Int) (n2 : Int) (w : World) (R : Ending → World → Prop) : Prop :=
 Br (decide (n2 < (1 : Int)))
  (
   R (Ending.returned (Value.int IntKind.i64 (0 : Int))) w)
  (
   Br (decide (n1 < (1 : Int)))
    (
     R (Ending.returned (Value.int IntKind.i64 (0 : Int))) w)
    (
     LetI (IntKind.i64.wrap (n1 - (1 : Int))) fun n3 =>
     (
      n2 ≠ (0 : Int)) ∧
     LetI (IntKind.i64.wrap (n3.tdiv n2)) fun n4 =>
     LetI (IntKind.i64.wrap (n4 + (1 : Int))) fun n5 =>
     R (Ending.returned (Value.int IntKind.i64 n5)) w))
theorem rceil_ok (n1 : Int) (n2 : Int) (w : World) (R : Ending → World → Prop) (h : rceil n1 n2 w R) : Ca Try.prog 15 #[Value.int IntKind.i64 n1, Value.int IntKind.i64 n2] w R :=
  Ca.of_fvc (c := bodyOf Try.f15) (by kernel_rfl) Try.func15 (by kernel_rfl) [] (Eq.mp (by kernel_rfl) h)

def ring (n1 : Int) (n2 : Int) (w : World) (R : Ending → World → Prop) : Prop :=
 Br (decide (n2 < (1 : Int)))
  (
   R (Ending.returned (Value.int IntKind.i64 (0 : Int))) w)
  (
   (
    n2 ≠ (0 : Int)) ∧
   LetI (n1.tmod n2) fun n3 =>
   Br (decide (n3 < (0 : Int)))
    (
     LetI (IntKind.i64.wrap (n3 + n2)) fun n4 =>
     R (Ending.returned (Value.int IntKind.i64 n4)) w)
    (
     R (Ending.returned (Value.int IntKind.i64 n3)) w))
theorem ring_ok (n1 : Int) (n2 : Int) (w : World) (R : Ending → World → Prop) (h : ring n1 n2 w R) : Ca Try.prog 16 #[Value.int IntKind.i64 n1, Value.int IntKind.i64 n2] w R :=
  Ca.of_fvc (c := bodyOf Try.f16) (by kernel_rfl) Try.func16 (by kernel_rfl) [] (Eq.mp (by kernel_rfl) h)

def rring (n1 : Int) (n2 : Int) (w : World) (R : Ending → World → Prop) : Prop :=
 Br (decide (n2 < (1 : Int)))
  (
   R (Ending.returned (Value.int IntKind.i64 (0 : Int))) w)
  (
   Br (decide (n1 ≥ (0 : Int)))
    (
     (
      n2 ≠ (0 : Int)) ∧
     LetI (n1.tmod n2) fun n3 =>
     R (Ending.returned (Value.int IntKind.i64 n3)) w)
    (
     LetI (IntKind.i64.wrap (n2 - (1 : Int))) fun n4 =>
     LetI (IntKind.i64.wrap (n1 + (1 : Int))) fun n5 =>
     (
      n2 ≠ (0 : Int)) ∧
     LetI ((IntKind.i64.wrap ((0 : Int) - n5)).tmod n2) fun n6 =>
     LetI (IntKind.i64.wrap (n4 - n6)) fun n7 =>
     R (Ending.returned (Value.int IntKind.i64 n7)) w))
theorem rring_ok (n1 : Int) (n2 : Int) (w : World) (R : Ending → World → Prop) (h : rring n1 n2 w R) : Ca Try.prog 17 #[Value.int IntKind.i64 n1, Value.int IntKind.i64 n2] w R :=
  Ca.of_fvc (c := bodyOf Try.f17) (by kernel_rfl) Try.func17 (by kernel_rfl) [] (Eq.mp (by kernel_rfl) h)

def counted (w : World) (R : Ending → World → Prop) : Prop :=
 Ca Try.prog (6 : Nat) #[Value.int IntKind.i64 (9223372036854775807 : Int), Value.int IntKind.i64 (1 : Int)] w fun e1 w2 =>
 ∃ n3 : Int,
 (
  e1 = Ending.returned (Value.int IntKind.i64 n3)) ∧
 Br (n3 == (9223372036854775807 : Int))
  (
   Ca Try.prog (8 : Nat) #[Value.int IntKind.i64 (-9223372036854775808 : Int), Value.int IntKind.i64 (1 : Int)] w2 fun e4 w5 =>
   ∃ n6 : Int,
   (
    e4 = Ending.returned (Value.int IntKind.i64 n6)) ∧
   Br (n6 == (-9223372036854775808 : Int))
    (
     Ca Try.prog (10 : Nat) #[Value.int IntKind.i64 (-9223372036854775808 : Int), Value.int IntKind.i64 (-1 : Int)] w5 fun e7 w8 =>
     ∃ n9 : Int,
     (
      e7 = Ending.returned (Value.int IntKind.i64 n9)) ∧
     Br (n9 == (9223372036854775807 : Int))
      (
       Ca Try.prog (12 : Nat) #[Value.int IntKind.i64 (5 : Int), Value.int IntKind.i64 (1 : Int), Value.int IntKind.i64 (3 : Int)] w8 fun e10 w11 =>
       ∃ n12 : Int,
       (
        e10 = Ending.returned (Value.int IntKind.i64 n12)) ∧
       Br (n12 == (3 : Int))
        (
         Ca Try.prog (12 : Nat) #[Value.int IntKind.i64 (5 : Int), Value.int IntKind.i64 (7 : Int), Value.int IntKind.i64 (3 : Int)] w11 fun e13 w14 =>
         ∃ n15 : Int,
         (
          e13 = Ending.returned (Value.int IntKind.i64 n15)) ∧
         Br (n15 == (7 : Int))
          (
           Ca Try.prog (14 : Nat) #[Value.int IntKind.i64 (7 : Int), Value.int IntKind.i64 (2 : Int)] w14 fun e16 w17 =>
           ∃ n18 : Int,
           (
            e16 = Ending.returned (Value.int IntKind.i64 n18)) ∧
           Br (n18 == (4 : Int))
            (
             Ca Try.prog (14 : Nat) #[Value.int IntKind.i64 (8 : Int), Value.int IntKind.i64 (2 : Int)] w17 fun e19 w20 =>
             ∃ n21 : Int,
             (
              e19 = Ending.returned (Value.int IntKind.i64 n21)) ∧
             Br (n21 == (4 : Int))
              (
               Ca Try.prog (14 : Nat) #[Value.int IntKind.i64 (7 : Int), Value.int IntKind.i64 (0 : Int)] w20 fun e22 w23 =>
               ∃ n24 : Int,
               (
                e22 = Ending.returned (Value.int IntKind.i64 n24)) ∧
               Br (n24 == (0 : Int))
                (
                 Ca Try.prog (16 : Nat) #[Value.int IntKind.i64 (-1 : Int), Value.int IntKind.i64 (5 : Int)] w23 fun e25 w26 =>
                 ∃ n27 : Int,
                 (
                  e25 = Ending.returned (Value.int IntKind.i64 n27)) ∧
                 Br (n27 == (4 : Int))
                  (
                   Ca Try.prog (16 : Nat) #[Value.int IntKind.i64 (12 : Int), Value.int IntKind.i64 (5 : Int)] w26 fun e28 w29 =>
                   ∃ n30 : Int,
                   (
                    e28 = Ending.returned (Value.int IntKind.i64 n30)) ∧
                   Br (n30 == (2 : Int))
                    (
                     Ca Try.prog (16 : Nat) #[Value.int IntKind.i64 (3 : Int), Value.int IntKind.i64 (0 : Int)] w29 fun e31 w32 =>
                     ∃ n33 : Int,
                     (
                      e31 = Ending.returned (Value.int IntKind.i64 n33)) ∧
                     R (Ending.returned (Value.bool (n33 == (0 : Int)))) w32)
                    (
                     R (Ending.returned (Value.bool false)) w29))
                  (
                   R (Ending.returned (Value.bool false)) w26))
                (
                 R (Ending.returned (Value.bool false)) w23))
              (
               R (Ending.returned (Value.bool false)) w20))
            (
             R (Ending.returned (Value.bool false)) w17))
          (
           R (Ending.returned (Value.bool false)) w14))
        (
         R (Ending.returned (Value.bool false)) w11))
      (
       R (Ending.returned (Value.bool false)) w8))
    (
     R (Ending.returned (Value.bool false)) w5))
  (
   R (Ending.returned (Value.bool false)) w2)
theorem counted_ok (w : World) (R : Ending → World → Prop) (h : counted  w R) : Ca Try.prog 18 #[] w R :=
  Ca.of_fvc (c := bodyOf Try.f18) (by kernel_rfl) Try.func18 (by kernel_rfl) [] (Eq.mp (by kernel_rfl) h)

def greatest (w : World) (R : Ending → World → Prop) : Prop :=
 R (Ending.returned (Value.int IntKind.i64 (9223372036854775807 : Int))) w
theorem greatest_ok (w : World) (R : Ending → World → Prop) (h : greatest  w R) : Ca Try.prog 19 #[] w R :=
  Ca.of_fvc (c := bodyOf Try.f19) (by kernel_rfl) Try.func19 (by kernel_rfl) [] (Eq.mp (by kernel_rfl) h)

def least (w : World) (R : Ending → World → Prop) : Prop :=
 R (Ending.returned (Value.int IntKind.i64 (-9223372036854775808 : Int))) w
theorem least_ok (w : World) (R : Ending → World → Prop) (h : least  w R) : Ca Try.prog 20 #[] w R :=
  Ca.of_fvc (c := bodyOf Try.f20) (by kernel_rfl) Try.func20 (by kernel_rfl) [] (Eq.mp (by kernel_rfl) h)

def rsize (n1 : Int) (w : World) (R : Ending → World → Prop) : Prop :=
 Br (decide (n1 < (0 : Int)))
  (
   LetI (IntKind.i64.wrap (n1 + (1 : Int))) fun n2 =>
   LetI (IntKind.u64.wrap (IntKind.i64.wrap ((0 : Int) - n2))) fun n3 =>
   LetI (IntKind.u64.wrap (n3 + (1 : Int))) fun n4 =>
   R (Ending.returned (Value.int IntKind.u64 n4)) w)
  (
   LetI (IntKind.u64.wrap n1) fun n5 =>
   R (Ending.returned (Value.int IntKind.u64 n5)) w)
theorem rsize_ok (n1 : Int) (w : World) (R : Ending → World → Prop) (h : rsize n1 w R) : Ca Try.prog 21 #[Value.int IntKind.i64 n1] w R :=
  Ca.of_fvc (c := bodyOf Try.f21) (by kernel_rfl) Try.func21 (by kernel_rfl) [] (Eq.mp (by kernel_rfl) h)

def lawTell (n1 : Int) (n2 : Int) (n3 : Int) (w : World) (R : Ending → World → Prop) : Prop :=
 Ca Try.prog (6 : Nat) #[Value.int IntKind.i64 n1, Value.int IntKind.i64 n2] w fun e4 w5 =>
 ∃ n6 : Int,
 (
  e4 = Ending.returned (Value.int IntKind.i64 n6)) ∧
 Ca Try.prog (7 : Nat) #[Value.int IntKind.i64 n1, Value.int IntKind.i64 n2] w5 fun e7 w8 =>
 ∃ n9 : Int,
 (
  e7 = Ending.returned (Value.int IntKind.i64 n9)) ∧
 Br (n6 != n9)
  (
   R (Ending.returned (Value.bool false)) w8)
  (
   Ca Try.prog (8 : Nat) #[Value.int IntKind.i64 n1, Value.int IntKind.i64 n2] w8 fun e10 w11 =>
   ∃ n12 : Int,
   (
    e10 = Ending.returned (Value.int IntKind.i64 n12)) ∧
   Ca Try.prog (9 : Nat) #[Value.int IntKind.i64 n1, Value.int IntKind.i64 n2] w11 fun e13 w14 =>
   ∃ n15 : Int,
   (
    e13 = Ending.returned (Value.int IntKind.i64 n15)) ∧
   Br (n12 != n15)
    (
     R (Ending.returned (Value.bool false)) w14)
    (
     Ca Try.prog (10 : Nat) #[Value.int IntKind.i64 n1, Value.int IntKind.i64 n2] w14 fun e16 w17 =>
     ∃ n18 : Int,
     (
      e16 = Ending.returned (Value.int IntKind.i64 n18)) ∧
     Ca Try.prog (11 : Nat) #[Value.int IntKind.i64 n1, Value.int IntKind.i64 n2] w17 fun e19 w20 =>
     ∃ n21 : Int,
     (
      e19 = Ending.returned (Value.int IntKind.i64 n21)) ∧
     Br (n18 != n21)
      (
       R (Ending.returned (Value.bool false)) w20)
      (
       Ca Try.prog (12 : Nat) #[Value.int IntKind.i64 n1, Value.int IntKind.i64 n2, Value.int IntKind.i64 n3] w20 fun e22 w23 =>
       ∃ n24 : Int,
       (
        e22 = Ending.returned (Value.int IntKind.i64 n24)) ∧
       Ca Try.prog (13 : Nat) #[Value.int IntKind.i64 n1, Value.int IntKind.i64 n2, Value.int IntKind.i64 n3] w23 fun e25 w26 =>
       ∃ n27 : Int,
       (
        e25 = Ending.returned (Value.int IntKind.i64 n27)) ∧
       Br (n24 == n27)
        (
         Ca Try.prog (14 : Nat) #[Value.int IntKind.i64 n1, Value.int IntKind.i64 n2] w26 fun e28 w29 =>
         ∃ n30 : Int,
         (
          e28 = Ending.returned (Value.int IntKind.i64 n30)) ∧
         Ca Try.prog (15 : Nat) #[Value.int IntKind.i64 n1, Value.int IntKind.i64 n2] w29 fun e31 w32 =>
         ∃ n33 : Int,
         (
          e31 = Ending.returned (Value.int IntKind.i64 n33)) ∧
         Br (n30 == n33)
          (
           Ca Try.prog (16 : Nat) #[Value.int IntKind.i64 n1, Value.int IntKind.i64 n2] w32 fun e34 w35 =>
           ∃ n36 : Int,
           (
            e34 = Ending.returned (Value.int IntKind.i64 n36)) ∧
           Ca Try.prog (17 : Nat) #[Value.int IntKind.i64 n1, Value.int IntKind.i64 n2] w35 fun e37 w38 =>
           ∃ n39 : Int,
           (
            e37 = Ending.returned (Value.int IntKind.i64 n39)) ∧
           Br (n36 == n39)
            (
             Ca Try.prog (18 : Nat) #[] w38 fun e40 w41 =>
             ∃ b42 : Bool,
             (
              e40 = Ending.returned (Value.bool b42)) ∧
             R (Ending.returned (Value.bool b42)) w41)
            (
             R (Ending.returned (Value.bool false)) w38))
          (
           R (Ending.returned (Value.bool false)) w32))
        (
         R (Ending.returned (Value.bool false)) w26))))
theorem lawTell_ok (n1 : Int) (n2 : Int) (n3 : Int) (w : World) (R : Ending → World → Prop) (h : lawTell n1 n2 n3 w R) : Ca Try.prog 3 #[Value.int IntKind.i64 n1, Value.int IntKind.i64 n2, Value.int IntKind.i64 n3] w R :=
  Ca.of_fvc (c := bodyOf Try.f3) (by kernel_rfl) Try.func3 (by kernel_rfl) [] (Eq.mp (by kernel_rfl) h)

def lawWithin (n1 : Int) (n2 : Int) (n3 : Int) (w : World) (R : Ending → World → Prop) : Prop :=
 LetI (IntKind.i64.wrap n1) fun n4 =>
 LetI (IntKind.i64.wrap n2) fun n5 =>
 LetI (IntKind.i64.wrap n3) fun n6 =>
 Ca Try.prog (6 : Nat) #[Value.int IntKind.i64 n4, Value.int IntKind.i64 n5] w fun e7 w8 =>
 ∃ n9 : Int,
 (
  e7 = Ending.returned (Value.int IntKind.i64 n9)) ∧
 LetI (IntKind.i64.wrap (n4 + n5)) fun n10 =>
 Br (n9 != n10)
  (
   R (Ending.returned (Value.bool false)) w8)
  (
   Ca Try.prog (8 : Nat) #[Value.int IntKind.i64 n4, Value.int IntKind.i64 n5] w8 fun e11 w12 =>
   ∃ n13 : Int,
   (
    e11 = Ending.returned (Value.int IntKind.i64 n13)) ∧
   LetI (IntKind.i64.wrap (n4 - n5)) fun n14 =>
   Br (n13 != n14)
    (
     R (Ending.returned (Value.bool false)) w12)
    (
     Ca Try.prog (10 : Nat) #[Value.int IntKind.i64 n4, Value.int IntKind.i64 n5] w12 fun e15 w16 =>
     ∃ n17 : Int,
     (
      e15 = Ending.returned (Value.int IntKind.i64 n17)) ∧
     LetI (IntKind.i64.wrap (n4 * n5)) fun n18 =>
     Br (n17 != n18)
      (
       R (Ending.returned (Value.bool false)) w16)
      (
       Ca Try.prog (6 : Nat) #[Value.int IntKind.i64 n4, Value.int IntKind.i64 n5] w16 fun e19 w20 =>
       ∃ n21 : Int,
       (
        e19 = Ending.returned (Value.int IntKind.i64 n21)) ∧
       Ca Try.prog (10 : Nat) #[Value.int IntKind.i64 n21, Value.int IntKind.i64 n6] w20 fun e22 w23 =>
       ∃ n24 : Int,
       (
        e22 = Ending.returned (Value.int IntKind.i64 n24)) ∧
       Ca Try.prog (10 : Nat) #[Value.int IntKind.i64 n4, Value.int IntKind.i64 n6] w23 fun e25 w26 =>
       ∃ n27 : Int,
       (
        e25 = Ending.returned (Value.int IntKind.i64 n27)) ∧
       Ca Try.prog (10 : Nat) #[Value.int IntKind.i64 n5, Value.int IntKind.i64 n6] w26 fun e28 w29 =>
       ∃ n30 : Int,
       (
        e28 = Ending.returned (Value.int IntKind.i64 n30)) ∧
       Ca Try.prog (6 : Nat) #[Value.int IntKind.i64 n27, Value.int IntKind.i64 n30] w29 fun e31 w32 =>
       ∃ n33 : Int,
       (
        e31 = Ending.returned (Value.int IntKind.i64 n33)) ∧
       Br (n24 != n33)
        (
         R (Ending.returned (Value.bool false)) w32)
        (
         Ca Try.prog (6 : Nat) #[Value.int IntKind.i64 (9223372036854775807 : Int), Value.int IntKind.i64 n4] w32 fun e34 w35 =>
         ∃ n36 : Int,
         (
          e34 = Ending.returned (Value.int IntKind.i64 n36)) ∧
         Br (decide (n4 ≥ (0 : Int)) == (n36 == (9223372036854775807 : Int)))
          (
           Ca Try.prog (8 : Nat) #[Value.int IntKind.i64 (-9223372036854775808 : Int), Value.int IntKind.i64 n4] w35 fun e37 w38 =>
           ∃ n39 : Int,
           (
            e37 = Ending.returned (Value.int IntKind.i64 n39)) ∧
           Ca Try.prog (8 : Nat) #[Value.int IntKind.i64 n39, Value.int IntKind.i64 (0 : Int)] w38 fun e40 w41 =>
           ∃ n42 : Int,
           (
            e40 = Ending.returned (Value.int IntKind.i64 n42)) ∧
           LetI (max (IntKind.i64.wrap ((0 : Int) - n4)) (0 : Int)) fun n43 =>
           Ca Try.prog (6 : Nat) #[Value.int IntKind.i64 (-9223372036854775808 : Int), Value.int IntKind.i64 n43] w41 fun e44 w45 =>
           ∃ n46 : Int,
           (
            e44 = Ending.returned (Value.int IntKind.i64 n46)) ∧
           Br (decide (n42 ≤ n46))
            (
             Ca Try.prog (18 : Nat) #[] w45 fun e47 w48 =>
             ∃ b49 : Bool,
             (
              e47 = Ending.returned (Value.bool b49)) ∧
             R (Ending.returned (Value.bool b49)) w48)
            (
             R (Ending.returned (Value.bool false)) w45))
          (
           R (Ending.returned (Value.bool false)) w35)))))
theorem lawWithin_ok (n1 : Int) (n2 : Int) (n3 : Int) (w : World) (R : Ending → World → Prop) (h : lawWithin n1 n2 n3 w R) : Ca Try.prog 4 #[Value.int IntKind.i32 n1, Value.int IntKind.i32 n2, Value.int IntKind.i32 n3] w R :=
  Ca.of_fvc (c := bodyOf Try.f4) (by kernel_rfl) Try.func4 (by kernel_rfl) [] (Eq.mp (by kernel_rfl) h)

def lawCeil (n1 : Int) (n2 : Int) (n3 : Int) (w : World) (R : Ending → World → Prop) : Prop :=
 LetI (IntKind.i64.wrap n1) fun n4 =>
 (
  (0 : Int) ≤ (1 : Int)) ∧
 LetI (n2.fdiv ((2 : Int) ^ (1 : Nat))) fun n5 =>
 LetI (IntKind.i64.wrap n5) fun n6 =>
 LetI (IntKind.i64.wrap ((1 : Int) + n6)) fun n7 =>
 Ca Try.prog (14 : Nat) #[Value.int IntKind.i64 n4, Value.int IntKind.i64 n7] w fun e8 w9 =>
 ∃ n10 : Int,
 (
  e8 = Ending.returned (Value.int IntKind.i64 n10)) ∧
 Br (decide (n10 < (0 : Int)))
  (
   R (Ending.returned (Value.bool false)) w9)
  (
   LetI (IntKind.i64.wrap (n10 * n7)) fun n11 =>
   Br (decide (n11 < n4))
    (
     R (Ending.returned (Value.bool false)) w9)
    (
     Br (decide (n10 > (0 : Int)))
      (
       LetI (IntKind.i64.wrap (n10 - (1 : Int))) fun n12 =>
       LetI (IntKind.i64.wrap (n12 * n7)) fun n13 =>
       Br (decide (n13 ≥ n4))
        (
         R (Ending.returned (Value.bool false)) w9)
        (
         LetI (IntKind.i64.wrap n3) fun n14 =>
         Ca Try.prog (16 : Nat) #[Value.int IntKind.i64 n14, Value.int IntKind.i64 n7] w9 fun e15 w16 =>
         ∃ n17 : Int,
         (
          e15 = Ending.returned (Value.int IntKind.i64 n17)) ∧
         Br (decide (n17 ≥ (0 : Int)))
          (
           Br (decide (n17 < n7))
            (
             LetI (IntKind.i64.wrap n3) fun n18 =>
             LetI (IntKind.i64.wrap (n18 - n17)) fun n19 =>
             (
              n7 ≠ (0 : Int)) ∧
             LetI (n19.tmod n7) fun n20 =>
             Br (n20 == (0 : Int))
              (
               LetI (IntKind.i64.wrap n3) fun n21 =>
               LetI (IntKind.i64.wrap (n21 + n7)) fun n22 =>
               Ca Try.prog (16 : Nat) #[Value.int IntKind.i64 n22, Value.int IntKind.i64 n7] w16 fun e23 w24 =>
               ∃ n25 : Int,
               (
                e23 = Ending.returned (Value.int IntKind.i64 n25)) ∧
               Br (n25 == n17)
                (
                 Ca Try.prog (18 : Nat) #[] w24 fun e26 w27 =>
                 ∃ b28 : Bool,
                 (
                  e26 = Ending.returned (Value.bool b28)) ∧
                 R (Ending.returned (Value.bool b28)) w27)
                (
                 R (Ending.returned (Value.bool false)) w24))
              (
               R (Ending.returned (Value.bool false)) w16))
            (
             R (Ending.returned (Value.bool false)) w16))
          (
           R (Ending.returned (Value.bool false)) w16)))
      (
       LetI (IntKind.i64.wrap n3) fun n29 =>
       Ca Try.prog (16 : Nat) #[Value.int IntKind.i64 n29, Value.int IntKind.i64 n7] w9 fun e30 w31 =>
       ∃ n32 : Int,
       (
        e30 = Ending.returned (Value.int IntKind.i64 n32)) ∧
       Br (decide (n32 ≥ (0 : Int)))
        (
         Br (decide (n32 < n7))
          (
           LetI (IntKind.i64.wrap n3) fun n33 =>
           LetI (IntKind.i64.wrap (n33 - n32)) fun n34 =>
           (
            n7 ≠ (0 : Int)) ∧
           LetI (n34.tmod n7) fun n35 =>
           Br (n35 == (0 : Int))
            (
             LetI (IntKind.i64.wrap n3) fun n36 =>
             LetI (IntKind.i64.wrap (n36 + n7)) fun n37 =>
             Ca Try.prog (16 : Nat) #[Value.int IntKind.i64 n37, Value.int IntKind.i64 n7] w31 fun e38 w39 =>
             ∃ n40 : Int,
             (
              e38 = Ending.returned (Value.int IntKind.i64 n40)) ∧
             Br (n40 == n32)
              (
               Ca Try.prog (18 : Nat) #[] w39 fun e41 w42 =>
               ∃ b43 : Bool,
               (
                e41 = Ending.returned (Value.bool b43)) ∧
               R (Ending.returned (Value.bool b43)) w42)
              (
               R (Ending.returned (Value.bool false)) w39))
            (
             R (Ending.returned (Value.bool false)) w31))
          (
           R (Ending.returned (Value.bool false)) w31))
        (
         R (Ending.returned (Value.bool false)) w31))))
theorem lawCeil_ok (n1 : Int) (n2 : Int) (n3 : Int) (w : World) (R : Ending → World → Prop) (h : lawCeil n1 n2 n3 w R) : Ca Try.prog 5 #[Value.int IntKind.u32 n1, Value.int IntKind.u32 n2, Value.int IntKind.i32 n3] w R :=
  Ca.of_fvc (c := bodyOf Try.f5) (by kernel_rfl) Try.func5 (by kernel_rfl) [] (Eq.mp (by kernel_rfl) h)

end Go.Proofs.Ytfmgjffdompohaa
