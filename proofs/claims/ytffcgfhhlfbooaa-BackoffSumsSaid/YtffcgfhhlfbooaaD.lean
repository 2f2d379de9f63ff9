/- The verification conditions of this seat's functions, printed by a program; the kernel holds each against the loaded code. -/
import Derived.Test.YtffcgfhhlfbooaaProg
import Derived.KernelRfl
import Derived.Test.YtffcgfhhlfbooaaV5
set_option maxRecDepth 100000
namespace Go.Proofs.Ytffcgfhhlfbooaa
open Go Go.Vc Go.Proofs
def gap (n1 : Int) (n2 : Int) (w : World) (R : Ending → World → Prop) : Prop :=
 Br (decide (n1 < (1 : Int)))
  (
   R (Ending.returned (Value.int IntKind.i64 (0 : Int))) w)
  (
   LetI (IntKind.i64.wrap (n1 - (1 : Int))) fun n3 =>
   LetI (min n3 (16 : Int)) fun n4 =>
   (
    (0 : Int) ≤ n4) ∧
   LetI (IntKind.i64.wrap ((1 : Int) * (2 : Int) ^ min n4.toNat (64 : Nat))) fun n5 =>
   Ca Try.prog (10 : Nat) #[Value.int IntKind.i64 n2] w fun e6 w7 =>
   ∃ n8 : Int,
   (
    e6 = Ending.returned (Value.int IntKind.i64 n8)) ∧
   LetI (min n5 n8) fun n9 =>
   R (Ending.returned (Value.int IntKind.i64 n9)) w7)
theorem gap_ok (n1 : Int) (n2 : Int) (w : World) (R : Ending → World → Prop) (h : gap n1 n2 w R) : Ca Try.prog 5 #[Value.int IntKind.i64 n1, Value.int IntKind.i64 n2] w R :=
  Ca.of_fvc (c := bodyOf Try.f5) (by kernel_rfl) Try.func5 (by kernel_rfl) [] (Eq.mp (by kernel_rfl) h)

def rgap (n1 : Int) (n2 : Int) (w : World) (R : Ending → World → Prop) : Prop :=
 ∃ I3 : List Value → World → Prop,
 (
  Br (decide (n2 > (64 : Int)))
   (
    I3 [Value.int IntKind.i64 (64 : Int)] w)
   (
    I3 [Value.int IntKind.i64 n2] w)) ∧
 ∀ n4 : Int,
 ∀ w5 : World,
 (
  I3 [Value.int IntKind.i64 n4] w5) →
 Br (decide (n1 < (1 : Int)))
  (
   R (Ending.returned (Value.int IntKind.i64 (0 : Int))) w5)
  (
   Br (decide (n4 < (0 : Int)))
    (
     R (Ending.returned (Value.int IntKind.i64 (0 : Int))) w5)
    (
     ∃ I6 : Nat → List Value → World → Prop,
     (
      ∃ k7 : Nat,
      I6 k7 [Value.int IntKind.i64 (1 : Int), Value.int IntKind.i64 (1 : Int)] w5) ∧
     ∀ n8 : Int,
     ∀ n9 : Int,
     ∀ k10 : Nat,
     ∀ w11 : World,
     (
      I6 k10 [Value.int IntKind.i64 n8, Value.int IntKind.i64 n9] w11) →
     Br (decide (n9 < n1))
      (
       Br (decide (n8 < n4))
        (
         LetI (IntKind.i64.wrap ((2 : Int) * n8)) fun n12 =>
         LetI (IntKind.i64.wrap (n9 + (1 : Int))) fun n13 =>
         ∃ k14 : Nat,
         (
          k14 < k10) ∧
         I6 k14 [Value.int IntKind.i64 n12, Value.int IntKind.i64 n13] w11)
        (
         LetI (min n8 n4) fun n15 =>
         R (Ending.returned (Value.int IntKind.i64 n15)) w11))
      (
       LetI (min n8 n4) fun n16 =>
       R (Ending.returned (Value.int IntKind.i64 n16)) w11)))
theorem rgap_ok (n1 : Int) (n2 : Int) (w : World) (R : Ending → World → Prop) (h : rgap n1 n2 w R) : Ca Try.prog 6 #[Value.int IntKind.i64 n1, Value.int IntKind.i64 n2] w R :=
  Ca.of_fvc (c := bodyOf Try.f6) (by kernel_rfl) Try.func6 (by kernel_rfl) [3] (Eq.mp (by kernel_rfl) h)

def sum (n1 : Int) (n2 : Int) (w : World) (R : Ending → World → Prop) : Prop :=
 Ca Try.prog (10 : Nat) #[Value.int IntKind.i64 n2] w fun e3 w4 =>
 ∃ n5 : Int,
 (
  e3 = Ending.returned (Value.int IntKind.i64 n5)) ∧
 Br (decide (n1 < (1 : Int)))
  (
   R (Ending.returned (Value.int IntKind.i64 (0 : Int))) w4)
  (
   Br (n5 == (0 : Int))
    (
     R (Ending.returned (Value.int IntKind.i64 (0 : Int))) w4)
    (
     LetI (min n1 (1099511627776 : Int)) fun n6 =>
     LetI (IntKind.u64.wrap n5) fun n7 =>
     Ca Try.prog (11 : Nat) #[Value.int IntKind.u64 n7] w4 fun e8 w9 =>
     ∃ n10 : Int,
     (
      e8 = Ending.returned (Value.int IntKind.i64 n10)) ∧
     LetI (min n6 n10) fun n11 =>
     (
      (0 : Int) ≤ n11) ∧
     LetI (IntKind.i64.wrap ((1 : Int) * (2 : Int) ^ min n11.toNat (64 : Nat))) fun n12 =>
     LetI (IntKind.i64.wrap (n12 - (1 : Int))) fun n13 =>
     LetI (IntKind.i64.wrap (n6 - n11)) fun n14 =>
     LetI (IntKind.i64.wrap (n14 * n5)) fun n15 =>
     LetI (IntKind.i64.wrap (n13 + n15)) fun n16 =>
     R (Ending.returned (Value.int IntKind.i64 n16)) w9))
theorem sum_ok (n1 : Int) (n2 : Int) (w : World) (R : Ending → World → Prop) (h : sum n1 n2 w R) : Ca Try.prog 7 #[Value.int IntKind.i64 n1, Value.int IntKind.i64 n2] w R :=
  Ca.of_fvc (c := bodyOf Try.f7) (by kernel_rfl) Try.func7 (by kernel_rfl) [] (Eq.mp (by kernel_rfl) h)

def rsum (n1 : Int) (n2 : Int) (w : World) (R : Ending → World → Prop) : Prop :=
 ∃ I3 : List Value → World → Prop,
 (
  Br (decide (n1 > (1099511627776 : Int)))
   (
    I3 [Value.int IntKind.i64 (1099511627776 : Int)] w)
   (
    I3 [Value.int IntKind.i64 n1] w)) ∧
 ∀ n4 : Int,
 ∀ w5 : World,
 (
  I3 [Value.int IntKind.i64 n4] w5) →
 ∃ I6 : Nat → List Value → World → Prop,
 (
  ∃ k7 : Nat,
  I6 k7 [Value.int IntKind.i64 (0 : Int), Value.int IntKind.i64 (1 : Int)] w5) ∧
 ∀ n8 : Int,
 ∀ n9 : Int,
 ∀ k10 : Nat,
 ∀ w11 : World,
 (
  I6 k10 [Value.int IntKind.i64 n8, Value.int IntKind.i64 n9] w11) →
 Br (decide (n9 ≤ n4))
  (
   Br (decide (n9 ≤ (8 : Int)))
    (
     Ca Try.prog (6 : Nat) #[Value.int IntKind.i64 n9, Value.int IntKind.i64 n2] w11 fun e12 w13 =>
     ∃ n14 : Int,
     (
      e12 = Ending.returned (Value.int IntKind.i64 n14)) ∧
     LetI (IntKind.i64.wrap (n8 + n14)) fun n15 =>
     LetI (IntKind.i64.wrap (n9 + (1 : Int))) fun n16 =>
     ∃ k17 : Nat,
     (
      k17 < k10) ∧
     I6 k17 [Value.int IntKind.i64 n15, Value.int IntKind.i64 n16] w13)
    (
     Br (decide (n4 > (8 : Int)))
      (
       LetI (IntKind.i64.wrap (n4 - (8 : Int))) fun n18 =>
       Ca Try.prog (6 : Nat) #[Value.int IntKind.i64 (9 : Int), Value.int IntKind.i64 n2] w11 fun e19 w20 =>
       ∃ n21 : Int,
       (
        e19 = Ending.returned (Value.int IntKind.i64 n21)) ∧
       LetI (IntKind.i64.wrap (n18 * n21)) fun n22 =>
       LetI (IntKind.i64.wrap (n8 + n22)) fun n23 =>
       R (Ending.returned (Value.int IntKind.i64 n23)) w20)
      (
       R (Ending.returned (Value.int IntKind.i64 n8)) w11)))
  (
   Br (decide (n4 > (8 : Int)))
    (
     LetI (IntKind.i64.wrap (n4 - (8 : Int))) fun n24 =>
     Ca Try.prog (6 : Nat) #[Value.int IntKind.i64 (9 : Int), Value.int IntKind.i64 n2] w11 fun e25 w26 =>
     ∃ n27 : Int,
     (
      e25 = Ending.returned (Value.int IntKind.i64 n27)) ∧
     LetI (IntKind.i64.wrap (n24 * n27)) fun n28 =>
     LetI (IntKind.i64.wrap (n8 + n28)) fun n29 =>
     R (Ending.returned (Value.int IntKind.i64 n29)) w26)
    (
     R (Ending.returned (Value.int IntKind.i64 n8)) w11))
theorem rsum_ok (n1 : Int) (n2 : Int) (w : World) (R : Ending → World → Prop) (h : rsum n1 n2 w R) : Ca Try.prog 8 #[Value.int IntKind.i64 n1, Value.int IntKind.i64 n2] w R :=
  Ca.of_fvc (c := bodyOf Try.f8) (by kernel_rfl) Try.func8 (by kernel_rfl) [3] (Eq.mp (by kernel_rfl) h)

def gaps (w : World) (R : Ending → World → Prop) : Prop :=
 Ca Try.prog (5 : Nat) #[Value.int IntKind.i64 (1 : Int), Value.int IntKind.i64 (5 : Int)] w fun e1 w2 =>
 ∃ n3 : Int,
 (
  e1 = Ending.returned (Value.int IntKind.i64 n3)) ∧
 Br (n3 == (1 : Int))
  (
   Ca Try.prog (5 : Nat) #[Value.int IntKind.i64 (2 : Int), Value.int IntKind.i64 (5 : Int)] w2 fun e4 w5 =>
   ∃ n6 : Int,
   (
    e4 = Ending.returned (Value.int IntKind.i64 n6)) ∧
   Br (n6 == (2 : Int))
    (
     Ca Try.prog (5 : Nat) #[Value.int IntKind.i64 (4 : Int), Value.int IntKind.i64 (5 : Int)] w5 fun e7 w8 =>
     ∃ n9 : Int,
     (
      e7 = Ending.returned (Value.int IntKind.i64 n9)) ∧
     Br (n9 == (5 : Int))
      (
       Ca Try.prog (5 : Nat) #[Value.int IntKind.i64 (9 : Int), Value.int IntKind.i64 (100 : Int)] w8 fun e10 w11 =>
       ∃ n12 : Int,
       (
        e10 = Ending.returned (Value.int IntKind.i64 n12)) ∧
       Br (n12 == (64 : Int))
        (
         Ca Try.prog (7 : Nat) #[Value.int IntKind.i64 (4 : Int), Value.int IntKind.i64 (5 : Int)] w11 fun e13 w14 =>
         ∃ n15 : Int,
         (
          e13 = Ending.returned (Value.int IntKind.i64 n15)) ∧
         Br (n15 == (12 : Int))
          (
           Ca Try.prog (7 : Nat) #[Value.int IntKind.i64 (3 : Int), Value.int IntKind.i64 (0 : Int)] w14 fun e16 w17 =>
           ∃ n18 : Int,
           (
            e16 = Ending.returned (Value.int IntKind.i64 n18)) ∧
           R (Ending.returned (Value.bool (n18 == (0 : Int)))) w17)
          (
           R (Ending.returned (Value.bool false)) w14))
        (
         R (Ending.returned (Value.bool false)) w11))
      (
       R (Ending.returned (Value.bool false)) w8))
    (
     R (Ending.returned (Value.bool false)) w5))
  (
   R (Ending.returned (Value.bool false)) w2)
theorem gaps_ok (w : World) (R : Ending → World → Prop) (h : gaps  w R) : Ca Try.prog 9 #[] w R :=
  Ca.of_fvc (c := bodyOf Try.f9) (by kernel_rfl) Try.func9 (by kernel_rfl) [] (Eq.mp (by kernel_rfl) h)

def top (n1 : Int) (w : World) (R : Ending → World → Prop) : Prop :=
 LetI (min n1 (64 : Int)) fun n2 =>
 LetI (max (0 : Int) n2) fun n3 =>
 R (Ending.returned (Value.int IntKind.i64 n3)) w
theorem top_ok (n1 : Int) (w : World) (R : Ending → World → Prop) (h : top n1 w R) : Ca Try.prog 10 #[Value.int IntKind.i64 n1] w R :=
  Ca.of_fvc (c := bodyOf Try.f10) (by kernel_rfl) Try.func10 (by kernel_rfl) [] (Eq.mp (by kernel_rfl) h)

def len_ (n1 : Int) (w : World) (R : Ending → World → Prop) : Prop :=
 Ca Try.prog (13 : Nat) #[Value.int IntKind.u64 n1] w fun e2 w3 =>
 ∃ n4 : Int,
 (
  e2 = Ending.returned (Value.int IntKind.i64 n4)) ∧
 R (Ending.returned (Value.int IntKind.i64 n4)) w3
theorem len__ok (n1 : Int) (w : World) (R : Ending → World → Prop) (h : len_ n1 w R) : Ca Try.prog 11 #[Value.int IntKind.u64 n1] w R :=
  Ca.of_fvc (c := bodyOf Try.f11) (by kernel_rfl) Try.func11 (by kernel_rfl) [] (Eq.mp (by kernel_rfl) h)

def len64 (n1 : Int) (w : World) (R : Ending → World → Prop) : Prop :=
 ∃ I2 : List Value → World → Prop,
 (
  Br (decide (n1 ≥ (4294967296 : Int)))
   (
    (
     (0 : Int) ≤ (32 : Int)) ∧
    LetI (n1.fdiv ((2 : Int) ^ (32 : Nat))) fun n3 =>
    I2 [Value.int IntKind.u64 n3, Value.int IntKind.i64 (32 : Int)] w)
   (
    I2 [Value.int IntKind.u64 n1, Value.int IntKind.i64 (0 : Int)] w)) ∧
 ∀ n4 : Int,
 ∀ n5 : Int,
 ∀ w6 : World,
 (
  I2 [Value.int IntKind.u64 n4, Value.int IntKind.i64 n5] w6) →
 ∃ I7 : List Value → World → Prop,
 (
  Br (decide (n4 ≥ (65536 : Int)))
   (
    (
     (0 : Int) ≤ (16 : Int)) ∧
    LetI (n4.fdiv ((2 : Int) ^ (16 : Nat))) fun n8 =>
    LetI (IntKind.i64.wrap (n5 + (16 : Int))) fun n9 =>
    I7 [Value.int IntKind.u64 n8, Value.int IntKind.i64 n9] w6)
   (
    I7 [Value.int IntKind.u64 n4, Value.int IntKind.i64 n5] w6)) ∧
 ∀ n10 : Int,
 ∀ n11 : Int,
 ∀ w12 : World,
 (
  I7 [Value.int IntKind.u64 n10, Value.int IntKind.i64 n11] w12) →
 ∃ I13 : List Value → World → Prop,
 (
  Br (decide (n10 ≥ (256 : Int)))
   (
    (
     (0 : Int) ≤ (8 : Int)) ∧
    LetI (n10.fdiv ((2 : Int) ^ (8 : Nat))) fun n14 =>
    LetI (IntKind.i64.wrap (n11 + (8 : Int))) fun n15 =>
    I13 [Value.int IntKind.u64 n14, Value.int IntKind.i64 n15] w12)
   (
    I13 [Value.int IntKind.u64 n10, Value.int IntKind.i64 n11] w12)) ∧
 ∀ n16 : Int,
 ∀ n17 : Int,
 ∀ w18 : World,
 (
  I13 [Value.int IntKind.u64 n16, Value.int IntKind.i64 n17] w18) →
 LetI (IntKind.u8.wrap n16) fun n19 =>
 (
  (
   (0 : Int) ≤ n19) ∧
  n19 < (↑(256 : Nat) : Int)) ∧
 LetI (IntKind.i64.wrap (↑(#[(0 : UInt8), (1 : UInt8), (2 : UInt8), (2 : UInt8), (3 : UInt8), (3 : UInt8), (3 : UInt8), (3 : UInt8), (4 : UInt8), (4 : UInt8), (4 : UInt8), (4 : UInt8), (4 : UInt8), (4 : UInt8), (4 : UInt8), (4 : UInt8), (5 : UInt8), (5 : UInt8), (5 : UInt8), (5 : UInt8), (5 : UInt8), (5 : UInt8), (5 : UInt8), (5 : UInt8), (5 : UInt8), (5 : UInt8), (5 : UInt8), (5 : UInt8), (5 : UInt8), (5 : UInt8), (5 : UInt8), (5 : UInt8), (6 : UInt8), (6 : UInt8), (6 : UInt8), (6 : UInt8), (6 : UInt8), (6 : UInt8), (6 : UInt8), (6 : UInt8), (6 : UInt8), (6 : UInt8), (6 : UInt8), (6 : UInt8), (6 : UInt8), (6 : UInt8), (6 : UInt8), (6 : UInt8), (6 : UInt8), (6 : UInt8), (6 : UInt8), (6 : UInt8), (6 : UInt8), (6 : UInt8), (6 : UInt8), (6 : UInt8), (6 : UInt8), (6 : UInt8), (6 : UInt8), (6 : UInt8), (6 : UInt8), (6 : UInt8), (6 : UInt8), (6 : UInt8), (7 : UInt8), (7 : UInt8), (7 : UInt8), (7 : UInt8), (7 : UInt8), (7 : UInt8), (7 : UInt8), (7 : UInt8), (7 : UInt8), (7 : UInt8), (7 : UInt8), (7 : UInt8), (7 : UInt8), (7 : UInt8), (7 : UInt8), (7 : UInt8), (7 : UInt8), (7 : UInt8), (7 : UInt8), (7 : UInt8), (7 : UInt8), (7 : UInt8), (7 : UInt8), (7 : UInt8), (7 : UInt8), (7 : UInt8), (7 : UInt8), (7 : UInt8), (7 : UInt8), (7 : UInt8), (7 : UInt8), (7 : UInt8), (7 : UInt8), (7 : UInt8), (7 : UInt8), (7 : UInt8), (7 : UInt8), (7 : UInt8), (7 : UInt8), (7 : UInt8), (7 : UInt8), (7 : UInt8), (7 : UInt8), (7 : UInt8), (7 : UInt8), (7 : UInt8), (7 : UInt8), (7 : UInt8), (7 : UInt8), (7 : UInt8), (7 : UInt8), (7 : UInt8), (7 : UInt8), (7 : UInt8), (7 : UInt8), (7 : UInt8), (7 : UInt8), (7 : UInt8), (7 : UInt8), (7 : UInt8), (7 : UInt8), (7 : UInt8), (7 : UInt8), (7 : UInt8), (8 : UInt8), (8 : UInt8), (8 : UInt8), (8 : UInt8), (8 : UInt8), (8 : UInt8), (8 : UInt8), (8 : UInt8), (8 : UInt8), (8 : UInt8), (8 : UInt8), (8 : UInt8), (8 : UInt8), (8 : UInt8), (8 : UInt8), (8 : UInt8), (8 : UInt8), (8 : UInt8), (8 : UInt8), (8 : UInt8), (8 : UInt8), (8 : UInt8), (8 : UInt8), (8 : UInt8), (8 : UInt8), (8 : UInt8), (8 : UInt8), (8 : UInt8), (8 : UInt8), (8 : UInt8), (8 : UInt8), (8 : UInt8), (8 : UInt8), (8 : UInt8), (8 : UInt8), (8 : UInt8), (8 : UInt8), (8 : UInt8), (8 : UInt8), (8 : UInt8), (8 : UInt8), (8 : UInt8), (8 : UInt8), (8 : UInt8), (8 : UInt8), (8 : UInt8), (8 : UInt8), (8 : UInt8), (8 : UInt8), (8 : UInt8), (8 : UInt8), (8 : UInt8), (8 : UInt8), (8 : UInt8), (8 : UInt8), (8 : UInt8), (8 : UInt8), (8 : UInt8), (8 : UInt8), (8 : UInt8), (8 : UInt8), (8 : UInt8), (8 : UInt8), (8 : UInt8), (8 : UInt8), (8 : UInt8), (8 : UInt8), (8 : UInt8), (8 : UInt8), (8 : UInt8), (8 : UInt8), (8 : UInt8), (8 : UInt8), (8 : UInt8), (8 : UInt8), (8 : UInt8), (8 : UInt8), (8 : UInt8), (8 : UInt8), (8 : UInt8), (8 : UInt8), (8 : UInt8), (8 : UInt8), (8 : UInt8), (8 : UInt8), (8 : UInt8), (8 : UInt8), (8 : UInt8), (8 : UInt8), (8 : UInt8), (8 : UInt8), (8 : UInt8), (8 : UInt8), (8 : UInt8), (8 : UInt8), (8 : UInt8), (8 : UInt8), (8 : UInt8), (8 : UInt8), (8 : UInt8), (8 : UInt8), (8 : UInt8), (8 : UInt8), (8 : UInt8), (8 : UInt8), (8 : UInt8), (8 : UInt8), (8 : UInt8), (8 : UInt8), (8 : UInt8), (8 : UInt8), (8 : UInt8), (8 : UInt8), (8 : UInt8), (8 : UInt8), (8 : UInt8), (8 : UInt8), (8 : UInt8), (8 : UInt8), (8 : UInt8), (8 : UInt8), (8 : UInt8), (8 : UInt8), (8 : UInt8), (8 : UInt8), (8 : UInt8), (8 : UInt8), (8 : UInt8)].getD n19.toNat (0 : UInt8)).toNat : Int)) fun n20 =>
 LetI (IntKind.i64.wrap (n17 + n20)) fun n21 =>
 R (Ending.returned (Value.int IntKind.i64 n21)) w18
theorem len64_ok (n1 : Int) (w : World) (R : Ending → World → Prop) (h : len64 n1 w R) : Ca Try.prog 13 #[Value.int IntKind.u64 n1] w R :=
  Ca.of_fvc (c := bodyOf Try.f13) (by kernel_rfl) Try.func13 (by kernel_rfl) [4, 7, 10] (Eq.mp (by kernel_rfl) h)

def lawTell (n1 : Int) (n2 : Int) (w : World) (R : Ending → World → Prop) : Prop :=
 ∃ I3 : Nat → List Value → World → Prop,
 (
  ∃ k4 : Nat,
  I3 k4 [Value.bool false, Value.int IntKind.i64 (-1 : Int)] w) ∧
 ∀ b5 : Bool,
 ∀ n6 : Int,
 ∀ k7 : Nat,
 ∀ w8 : World,
 (
  I3 k7 [Value.bool b5, Value.int IntKind.i64 n6] w8) →
 Br (decide (n6 < (20 : Int)))
  (
   Ca Try.prog (5 : Nat) #[Value.int IntKind.i64 n6, Value.int IntKind.i64 n2] w8 fun e9 w10 =>
   ∃ n11 : Int,
   (
    e9 = Ending.returned (Value.int IntKind.i64 n11)) ∧
   Ca Try.prog (6 : Nat) #[Value.int IntKind.i64 n6, Value.int IntKind.i64 n2] w10 fun e12 w13 =>
   ∃ n14 : Int,
   (
    e12 = Ending.returned (Value.int IntKind.i64 n14)) ∧
   Br (n11 != n14)
    (
     R (Ending.returned (Value.bool false)) w13)
    (
     Ca Try.prog (7 : Nat) #[Value.int IntKind.i64 n6, Value.int IntKind.i64 n2] w13 fun e15 w16 =>
     ∃ n17 : Int,
     (
      e15 = Ending.returned (Value.int IntKind.i64 n17)) ∧
     Ca Try.prog (8 : Nat) #[Value.int IntKind.i64 n6, Value.int IntKind.i64 n2] w16 fun e18 w19 =>
     ∃ n20 : Int,
     (
      e18 = Ending.returned (Value.int IntKind.i64 n20)) ∧
     Br (n17 != n20)
      (
       R (Ending.returned (Value.bool false)) w19)
      (
       Ca Try.prog (5 : Nat) #[Value.int IntKind.i64 n6, Value.int IntKind.i64 n1] w19 fun e21 w22 =>
       ∃ n23 : Int,
       (
        e21 = Ending.returned (Value.int IntKind.i64 n23)) ∧
       Ca Try.prog (6 : Nat) #[Value.int IntKind.i64 n6, Value.int IntKind.i64 n1] w22 fun e24 w25 =>
       ∃ n26 : Int,
       (
        e24 = Ending.returned (Value.int IntKind.i64 n26)) ∧
       Br (n23 != n26)
        (
         R (Ending.returned (Value.bool false)) w25)
        (
         LetI (IntKind.i64.wrap (n6 + (1 : Int))) fun n27 =>
         ∃ k28 : Nat,
         (
          k28 < k7) ∧
         I3 k28 [Value.bool b5, Value.int IntKind.i64 n27] w25))))
  (
   Ca Try.prog (5 : Nat) #[Value.int IntKind.i64 n1, Value.int IntKind.i64 n2] w8 fun e29 w30 =>
   ∃ n31 : Int,
   (
    e29 = Ending.returned (Value.int IntKind.i64 n31)) ∧
   Ca Try.prog (6 : Nat) #[Value.int IntKind.i64 n1, Value.int IntKind.i64 n2] w30 fun e32 w33 =>
   ∃ n34 : Int,
   (
    e32 = Ending.returned (Value.int IntKind.i64 n34)) ∧
   Br (n31 == n34)
    (
     Ca Try.prog (7 : Nat) #[Value.int IntKind.i64 n1, Value.int IntKind.i64 n2] w33 fun e35 w36 =>
     ∃ n37 : Int,
     (
      e35 = Ending.returned (Value.int IntKind.i64 n37)) ∧
     Ca Try.prog (8 : Nat) #[Value.int IntKind.i64 n1, Value.int IntKind.i64 n2] w36 fun e38 w39 =>
     ∃ n40 : Int,
     (
      e38 = Ending.returned (Value.int IntKind.i64 n40)) ∧
     Br (n37 == n40)
      (
       Ca Try.prog (9 : Nat) #[] w39 fun e41 w42 =>
       ∃ b43 : Bool,
       (
        e41 = Ending.returned (Value.bool b43)) ∧
       R (Ending.returned (Value.bool b43)) w42)
      (
       R (Ending.returned (Value.bool false)) w39))
    (
     R (Ending.returned (Value.bool false)) w33))
theorem lawTell_ok (n1 : Int) (n2 : Int) (w : World) (R : Ending → World → Prop) (h : lawTell n1 n2 w R) : Ca Try.prog 3 #[Value.int IntKind.i64 n1, Value.int IntKind.i64 n2] w R :=
  Ca.of_fvc (c := bodyOf Try.f3) (by kernel_rfl) Try.func3 (by kernel_rfl) [] (Eq.mp (by kernel_rfl) h)

def lawSums (n1 : Int) (n2 : Int) (w : World) (R : Ending → World → Prop) : Prop :=
 LetI (IntKind.i64.wrap n1) fun n3 =>
 LetI (IntKind.i64.wrap ((1 : Int) + n3)) fun n4 =>
 LetI (IntKind.i64.wrap n2) fun n5 =>
 Ca Try.prog (5 : Nat) #[Value.int IntKind.i64 n4, Value.int IntKind.i64 n5] w fun e6 w7 =>
 ∃ n8 : Int,
 (
  e6 = Ending.returned (Value.int IntKind.i64 n8)) ∧
 LetI (IntKind.i64.wrap (n4 + (1 : Int))) fun n9 =>
 Ca Try.prog (5 : Nat) #[Value.int IntKind.i64 n9, Value.int IntKind.i64 n5] w7 fun e10 w11 =>
 ∃ n12 : Int,
 (
  e10 = Ending.returned (Value.int IntKind.i64 n12)) ∧
 Br (decide (n8 > n12))
  (
   R (Ending.returned (Value.bool false)) w11)
  (
   Br (decide (n12 > n5))
    (
     R (Ending.returned (Value.bool false)) w11)
    (
     Br (decide (n12 > (64 : Int)))
      (
       R (Ending.returned (Value.bool false)) w11)
      (
       LetI (IntKind.i64.wrap (n4 + (1 : Int))) fun n13 =>
       Ca Try.prog (7 : Nat) #[Value.int IntKind.i64 n13, Value.int IntKind.i64 n5] w11 fun e14 w15 =>
       ∃ n16 : Int,
       (
        e14 = Ending.returned (Value.int IntKind.i64 n16)) ∧
       Ca Try.prog (7 : Nat) #[Value.int IntKind.i64 n4, Value.int IntKind.i64 n5] w15 fun e17 w18 =>
       ∃ n19 : Int,
       (
        e17 = Ending.returned (Value.int IntKind.i64 n19)) ∧
       LetI (IntKind.i64.wrap (n19 + n12)) fun n20 =>
       Br (n16 != n20)
        (
         R (Ending.returned (Value.bool false)) w18)
        (
         Ca Try.prog (7 : Nat) #[Value.int IntKind.i64 n4, Value.int IntKind.i64 n5] w18 fun e21 w22 =>
         ∃ n23 : Int,
         (
          e21 = Ending.returned (Value.int IntKind.i64 n23)) ∧
         Br (decide (n23 < n8))
          (
           R (Ending.returned (Value.bool false)) w22)
          (
           LetI (min n5 (64 : Int)) fun n24 =>
           Br (decide (n12 ≥ n24))
            (
             Br ((n5 == (0 : Int)) == (n8 == (0 : Int)))
              (
               Ca Try.prog (9 : Nat) #[] w22 fun e25 w26 =>
               ∃ b27 : Bool,
               (
                e25 = Ending.returned (Value.bool b27)) ∧
               R (Ending.returned (Value.bool b27)) w26)
              (
               R (Ending.returned (Value.bool false)) w22))
            (
             LetI (IntKind.i64.wrap ((2 : Int) * n8)) fun n28 =>
             Br (n12 == n28)
              (
               Br ((n5 == (0 : Int)) == (n8 == (0 : Int)))
                (
                 Ca Try.prog (9 : Nat) #[] w22 fun e29 w30 =>
                 ∃ b31 : Bool,
                 (
                  e29 = Ending.returned (Value.bool b31)) ∧
                 R (Ending.returned (Value.bool b31)) w30)
                (
                 R (Ending.returned (Value.bool false)) w22))
              (
               R (Ending.returned (Value.bool false)) w22)))))))
theorem lawSums_ok (n1 : Int) (n2 : Int) (w : World) (R : Ending → World → Prop) (h : lawSums n1 n2 w R) : Ca Try.prog 4 #[Value.int IntKind.u16 n1, Value.int IntKind.u8 n2] w R :=
  Ca.of_fvc (c := bodyOf Try.f4) (by kernel_rfl) Try.func4 (by kernel_rfl) [] (Eq.mp (by kernel_rfl) h)

end Go.Proofs.Ytffcgfhhlfbooaa
