/- The verification conditions of this seat's functions, printed by a program; the kernel holds each against the loaded code. -/
import Derived.Test.YtbdhdjbdooccoaaProg
import Derived.KernelRfl
import Derived.Test.YtbdhdjbdooccoaaV5
import Derived.Test.YtbdhdjbdooccoaaD
set_option maxRecDepth 100000
namespace Go.Proofs.Ytbdhdjbdooccoaa
open Go Go.Vc Go.Proofs
def rat (n1 : Int) (p2 : Option Addr) (k3 : Nat) (k4 : Nat) (n5 : Int) (n6 : Int) (w : World) (R : Ending → World → Prop) : Prop :=
 LetA (Obj.cells #[Value.int IntKind.i64 n1, Value.slice p2 k3 k4, Value.int IntKind.i64 n5] (37 : Nat)) w fun b7 w8 =>
 ∃ I9 : Nat → List Value → World → Prop,
 (
  ∃ k10 : Nat,
  I9 k10 [Value.int IntKind.i64 (0 : Int), Value.int IntKind.i64 (0 : Int)] w8) ∧
 ∀ n11 : Int,
 ∀ n12 : Int,
 ∀ k13 : Nat,
 ∀ w14 : World,
 (
  I9 k13 [Value.int IntKind.i64 n11, Value.int IntKind.i64 n12] w14) →
 ∃ p15 : Option Addr,
 ∃ k16 : Nat,
 ∃ k17 : Nat,
 (
  w14.cell? { block := b7, off := (1 : Nat) } = some (Value.slice p15 k16 k17)) ∧
 Br (decide (n12 < (↑k16 : Int)))
  (
   ∃ p18 : Option Addr,
   ∃ k19 : Nat,
   ∃ k20 : Nat,
   (
    w14.cell? { block := b7, off := (1 : Nat) } = some (Value.slice p18 k19 k20)) ∧
   NilOk p18 fun a21 =>
   (
    (
     (0 : Int) ≤ n12) ∧
    n12 < (↑k19 : Int)) ∧
   ∃ n22 : Int,
   (
    w14.cell? (a21.add (n12.toNat * (2 : Nat))) = some (Value.int IntKind.i64 n22)) ∧
   Br (n22 == n6)
    (
     R (Ending.returned (Value.int IntKind.i64 n12)) w14)
    (
     LetI (IntKind.i64.wrap (n12 + (1 : Int))) fun n23 =>
     ∃ k24 : Nat,
     (
      k24 < k13) ∧
     I9 k24 [Value.int IntKind.i64 n11, Value.int IntKind.i64 n23] w14))
  (
   R (Ending.returned (Value.int IntKind.i64 (-1 : Int))) w14)
theorem rat_ok (n1 : Int) (p2 : Option Addr) (k3 : Nat) (k4 : Nat) (n5 : Int) (n6 : Int) (w : World) (R : Ending → World → Prop) (h : rat n1 p2 k3 k4 n5 n6 w R) : Ca Try.prog 65 #[Value.agg #[Value.int IntKind.i64 n1, Value.slice p2 k3 k4, Value.int IntKind.i64 n5], Value.int IntKind.i64 n6] w R :=
  Ca.of_fvc (c := bodyOf Try.f65) (by kernel_rfl) Try.func65 (by kernel_rfl) [] (Eq.mp (by kernel_rfl) h)

def rccheck (n1 : Int) (p2 : Option Addr) (k3 : Nat) (k4 : Nat) (n5 : Int) (w : World) (R : Ending → World → Prop) : Prop :=
 LetA (Obj.cells #[Value.int IntKind.i64 n1, Value.slice p2 k3 k4, Value.int IntKind.i64 n5] (37 : Nat)) w fun b6 w7 =>
 ∃ n8 : Int,
 (
  w7.cell? { block := b6, off := (0 : Nat) } = some (Value.int IntKind.i64 n8)) ∧
 Br (decide (n8 < (1 : Int)))
  (
   R (Ending.returned (Value.int IntKind.i64 (2 : Int))) w7)
  (
   ∃ n9 : Int,
   (
    w7.cell? { block := b6, off := (0 : Nat) } = some (Value.int IntKind.i64 n9)) ∧
   Br (decide (n9 > (1099511627776 : Int)))
    (
     R (Ending.returned (Value.int IntKind.i64 (2 : Int))) w7)
    (
     ∃ p10 : Option Addr,
     ∃ k11 : Nat,
     ∃ k12 : Nat,
     (
      w7.cell? { block := b6, off := (1 : Nat) } = some (Value.slice p10 k11 k12)) ∧
     Br ((↑k11 : Int) == (0 : Int))
      (
       R (Ending.returned (Value.int IntKind.i64 (2 : Int))) w7)
      (
       ∃ p13 : Option Addr,
       ∃ k14 : Nat,
       ∃ k15 : Nat,
       (
        w7.cell? { block := b6, off := (1 : Nat) } = some (Value.slice p13 k14 k15)) ∧
       Br (decide ((↑k14 : Int) > (6 : Int)))
        (
         R (Ending.returned (Value.int IntKind.i64 (2 : Int))) w7)
        (
         ∃ I16 : Nat → List Value → World → Prop,
         (
          ∃ k17 : Nat,
          I16 k17 [Value.int IntKind.i64 (0 : Int), Value.int IntKind.i64 (0 : Int)] w7) ∧
         ∀ n18 : Int,
         ∀ n19 : Int,
         ∀ k20 : Nat,
         ∀ w21 : World,
         (
          I16 k20 [Value.int IntKind.i64 n18, Value.int IntKind.i64 n19] w21) →
         ∃ p22 : Option Addr,
         ∃ k23 : Nat,
         ∃ k24 : Nat,
         (
          w21.cell? { block := b6, off := (1 : Nat) } = some (Value.slice p22 k23 k24)) ∧
         Br (decide (n19 < (↑k23 : Int)))
          (
           ∃ p25 : Option Addr,
           ∃ k26 : Nat,
           ∃ k27 : Nat,
           (
            w21.cell? { block := b6, off := (1 : Nat) } = some (Value.slice p25 k26 k27)) ∧
           NilOk p25 fun a28 =>
           (
            (
             (0 : Int) ≤ n19) ∧
            n19 < (↑k26 : Int)) ∧
           ∃ n29 : Int,
           ∃ n30 : Int,
           (
            Row w21 (a28.add (n19.toNat * (2 : Nat))) (0 : Nat) [Value.int IntKind.i64 n29, Value.int IntKind.i64 n30]) ∧
           LetA (Obj.cells #[Value.int IntKind.i64 (0 : Int), Value.int IntKind.i64 (0 : Int)] (43 : Nat)) w21 fun b31 w32 =>
           (
            WrRow w32 { block := b31, off := (0 : Nat) } (0 : Nat) [Value.int IntKind.i64 n29, Value.int IntKind.i64 n30]) ∧
           LetW (setRow w32 { block := b31, off := (0 : Nat) } (0 : Nat) [Value.int IntKind.i64 n29, Value.int IntKind.i64 n30]) fun w33 =>
           ∃ n34 : Int,
           (
            w33.cell? { block := b31, off := (0 : Nat) } = some (Value.int IntKind.i64 n34)) ∧
           Br (decide (n34 < (0 : Int)))
            (
             R (Ending.returned (Value.int IntKind.i64 (2 : Int))) w33)
            (
             ∃ n35 : Int,
             (
              w33.cell? { block := b31, off := (0 : Nat) } = some (Value.int IntKind.i64 n35)) ∧
             Br (decide (n35 > (5 : Int)))
              (
               R (Ending.returned (Value.int IntKind.i64 (2 : Int))) w33)
              (
               ∃ n36 : Int,
               (
                w33.cell? { block := b31, off := (1 : Nat) } = some (Value.int IntKind.i64 n36)) ∧
               Br (decide (n36 < (1 : Int)))
                (
                 R (Ending.returned (Value.int IntKind.i64 (2 : Int))) w33)
                (
                 ∃ n37 : Int,
                 (
                  w33.cell? { block := b31, off := (1 : Nat) } = some (Value.int IntKind.i64 n37)) ∧
                 ∃ n38 : Int,
                 (
                  w33.cell? { block := b6, off := (0 : Nat) } = some (Value.int IntKind.i64 n38)) ∧
                 Br (decide (n37 > n38))
                  (
                   R (Ending.returned (Value.int IntKind.i64 (2 : Int))) w33)
                  (
                   ∃ I39 : Nat → List Value → World → Prop,
                   (
                    ∃ k40 : Nat,
                    I39 k40 [Value.int IntKind.i64 n18, Value.int IntKind.i64 (0 : Int)] w33) ∧
                   ∀ n41 : Int,
                   ∀ n42 : Int,
                   ∀ k43 : Nat,
                   ∀ w44 : World,
                   (
                    I39 k43 [Value.int IntKind.i64 n41, Value.int IntKind.i64 n42] w44) →
                   Br (decide (n42 < n19))
                    (
                     ∃ p45 : Option Addr,
                     ∃ k46 : Nat,
                     ∃ k47 : Nat,
                     (
                      w44.cell? { block := b6, off := (1 : Nat) } = some (Value.slice p45 k46 k47)) ∧
                     NilOk p45 fun a48 =>
                     (
                      (
                       (0 : Int) ≤ n42) ∧
                      n42 < (↑k46 : Int)) ∧
                     ∃ n49 : Int,
                     (
                      w44.cell? (a48.add (n42.toNat * (2 : Nat))) = some (Value.int IntKind.i64 n49)) ∧
                     ∃ n50 : Int,
                     (
                      w44.cell? { block := b31, off := (0 : Nat) } = some (Value.int IntKind.i64 n50)) ∧
                     Br (n49 == n50)
                      (
                       R (Ending.returned (Value.int IntKind.i64 (2 : Int))) w44)
                      (
                       LetI (IntKind.i64.wrap (n42 + (1 : Int))) fun n51 =>
                       ∃ k52 : Nat,
                       (
                        k52 < k43) ∧
                       I39 k52 [Value.int IntKind.i64 n41, Value.int IntKind.i64 n51] w44))
                    (
                     LetI (IntKind.i64.wrap (n19 + (1 : Int))) fun n53 =>
                     ∃ k54 : Nat,
                     (
                      k54 < k20) ∧
                     I16 k54 [Value.int IntKind.i64 n41, Value.int IntKind.i64 n53] w44))))))
          (
           ∃ n55 : Int,
           (
            w21.cell? { block := b6, off := (2 : Nat) } = some (Value.int IntKind.i64 n55)) ∧
           Br (n55 != (-1 : Int))
            (
             ∃ n56 : Int,
             ∃ p57 : Option Addr,
             ∃ k58 : Nat,
             ∃ k59 : Nat,
             ∃ n60 : Int,
             (
              Row w21 { block := b6, off := (0 : Nat) } (0 : Nat) [Value.int IntKind.i64 n56, Value.slice p57 k58 k59, Value.int IntKind.i64 n60]) ∧
             ∃ n61 : Int,
             (
              w21.cell? { block := b6, off := (2 : Nat) } = some (Value.int IntKind.i64 n61)) ∧
             Ca Try.prog (65 : Nat) #[Value.agg #[Value.int IntKind.i64 n56, Value.slice p57 k58 k59, Value.int IntKind.i64 n60], Value.int IntKind.i64 n61] w21 fun e62 w63 =>
             ∃ n64 : Int,
             (
              e62 = Ending.returned (Value.int IntKind.i64 n64)) ∧
             Br (n64 == (-1 : Int))
              (
               R (Ending.returned (Value.int IntKind.i64 (2 : Int))) w63)
              (
               R (Ending.returned (Value.int IntKind.i64 (0 : Int))) w63))
            (
             R (Ending.returned (Value.int IntKind.i64 (0 : Int))) w21))))))
theorem rccheck_ok (n1 : Int) (p2 : Option Addr) (k3 : Nat) (k4 : Nat) (n5 : Int) (w : World) (R : Ending → World → Prop) (h : rccheck n1 p2 k3 k4 n5 w R) : Ca Try.prog 64 #[Value.agg #[Value.int IntKind.i64 n1, Value.slice p2 k3 k4, Value.int IntKind.i64 n5]] w R :=
  Ca.of_fvc (c := bodyOf Try.f64) (by kernel_rfl) Try.func64 (by kernel_rfl) [] (Eq.mp (by kernel_rfl) h)

def rleaves (n1 : Int) (p2 : Option Addr) (k3 : Nat) (k4 : Nat) (n5 : Int) (n6 : Int) (w : World) (R : Ending → World → Prop) : Prop :=
 LetA (Obj.cells #[Value.int IntKind.i64 n1, Value.slice p2 k3 k4, Value.int IntKind.i64 n5] (37 : Nat)) w fun b7 w8 =>
 ∃ n9 : Int,
 ∃ p10 : Option Addr,
 ∃ k11 : Nat,
 ∃ k12 : Nat,
 ∃ n13 : Int,
 (
  Row w8 { block := b7, off := (0 : Nat) } (0 : Nat) [Value.int IntKind.i64 n9, Value.slice p10 k11 k12, Value.int IntKind.i64 n13]) ∧
 Ca Try.prog (64 : Nat) #[Value.agg #[Value.int IntKind.i64 n9, Value.slice p10 k11 k12, Value.int IntKind.i64 n13]] w8 fun e14 w15 =>
 ∃ n16 : Int,
 (
  e14 = Ending.returned (Value.int IntKind.i64 n16)) ∧
 Br (n16 != (0 : Int))
  (
   R (Ending.returned (Value.int IntKind.i64 (2 : Int))) w15)
  (
   ∃ n17 : Int,
   (
    w15.cell? { block := b7, off := (0 : Nat) } = some (Value.int IntKind.i64 n17)) ∧
   Br (n17 == (1099511627776 : Int))
    (
     R (Ending.returned (Value.int IntKind.i64 (2 : Int))) w15)
    (
     ∃ n18 : Int,
     ∃ p19 : Option Addr,
     ∃ k20 : Nat,
     ∃ k21 : Nat,
     ∃ n22 : Int,
     (
      Row w15 { block := b7, off := (0 : Nat) } (0 : Nat) [Value.int IntKind.i64 n18, Value.slice p19 k20 k21, Value.int IntKind.i64 n22]) ∧
     Ca Try.prog (65 : Nat) #[Value.agg #[Value.int IntKind.i64 n18, Value.slice p19 k20 k21, Value.int IntKind.i64 n22], Value.int IntKind.i64 n6] w15 fun e23 w24 =>
     ∃ n25 : Int,
     (
      e23 = Ending.returned (Value.int IntKind.i64 n25)) ∧
     Br (decide (n25 < (0 : Int)))
      (
       R (Ending.returned (Value.int IntKind.i64 (4 : Int))) w24)
      (
       ∃ p26 : Option Addr,
       ∃ k27 : Nat,
       ∃ k28 : Nat,
       (
        w24.cell? { block := b7, off := (1 : Nat) } = some (Value.slice p26 k27 k28)) ∧
       Br (decide ((↑k27 : Int) < (2 : Int)))
        (
         R (Ending.returned (Value.int IntKind.i64 (72 : Int))) w24)
        (
         R (Ending.returned (Value.int IntKind.i64 (0 : Int))) w24))))
theorem rleaves_ok (n1 : Int) (p2 : Option Addr) (k3 : Nat) (k4 : Nat) (n5 : Int) (n6 : Int) (w : World) (R : Ending → World → Prop) (h : rleaves n1 p2 k3 k4 n5 n6 w R) : Ca Try.prog 68 #[Value.agg #[Value.int IntKind.i64 n1, Value.slice p2 k3 k4, Value.int IntKind.i64 n5], Value.int IntKind.i64 n6] w R :=
  Ca.of_fvc (c := bodyOf Try.f68) (by kernel_rfl) Try.func68 (by kernel_rfl) [] (Eq.mp (by kernel_rfl) h)

def rwith (n1 : Int) (p2 : Option Addr) (k3 : Nat) (k4 : Nat) (n5 : Int) (n6 : Int) (w : World) (R : Ending → World → Prop) : Prop :=
 LetA (Obj.cells #[Value.int IntKind.i64 n1, Value.slice p2 k3 k4, Value.int IntKind.i64 n5] (37 : Nat)) w fun b7 w8 =>
 LetA (Obj.cells #[Value.int IntKind.i64 (0 : Int), Value.slice none (0 : Nat) (0 : Nat), Value.int IntKind.i64 (0 : Int)] (37 : Nat)) w8 fun b9 w10 =>
 ∃ n11 : Int,
 ∃ p12 : Option Addr,
 ∃ k13 : Nat,
 ∃ k14 : Nat,
 ∃ n15 : Int,
 (
  Row w10 { block := b7, off := (0 : Nat) } (0 : Nat) [Value.int IntKind.i64 n11, Value.slice p12 k13 k14, Value.int IntKind.i64 n15]) ∧
 Ca Try.prog (64 : Nat) #[Value.agg #[Value.int IntKind.i64 n11, Value.slice p12 k13 k14, Value.int IntKind.i64 n15]] w10 fun e16 w17 =>
 ∃ n18 : Int,
 (
  e16 = Ending.returned (Value.int IntKind.i64 n18)) ∧
 Br (n18 != (0 : Int))
  (
   (
    WrRow w17 { block := b9, off := (0 : Nat) } (0 : Nat) [Value.int IntKind.i64 (0 : Int), Value.slice none (0 : Nat) (0 : Nat), Value.int IntKind.i64 (0 : Int)]) ∧
   LetW (setRow w17 { block := b9, off := (0 : Nat) } (0 : Nat) [Value.int IntKind.i64 (0 : Int), Value.slice none (0 : Nat) (0 : Nat), Value.int IntKind.i64 (0 : Int)]) fun w19 =>
   ∃ n20 : Int,
   ∃ p21 : Option Addr,
   ∃ k22 : Nat,
   ∃ k23 : Nat,
   ∃ n24 : Int,
   (
    Row w19 { block := b9, off := (0 : Nat) } (0 : Nat) [Value.int IntKind.i64 n20, Value.slice p21 k22 k23, Value.int IntKind.i64 n24]) ∧
   R (Ending.returned (Value.tuple #[Value.agg #[Value.int IntKind.i64 n20, Value.slice p21 k22 k23, Value.int IntKind.i64 n24], Value.int IntKind.i64 (2 : Int)])) w19)
  (
   ∃ n25 : Int,
   (
    w17.cell? { block := b7, off := (0 : Nat) } = some (Value.int IntKind.i64 n25)) ∧
   Br (n25 == (1099511627776 : Int))
    (
     (
      WrRow w17 { block := b9, off := (0 : Nat) } (0 : Nat) [Value.int IntKind.i64 (0 : Int), Value.slice none (0 : Nat) (0 : Nat), Value.int IntKind.i64 (0 : Int)]) ∧
     LetW (setRow w17 { block := b9, off := (0 : Nat) } (0 : Nat) [Value.int IntKind.i64 (0 : Int), Value.slice none (0 : Nat) (0 : Nat), Value.int IntKind.i64 (0 : Int)]) fun w26 =>
     ∃ n27 : Int,
     ∃ p28 : Option Addr,
     ∃ k29 : Nat,
     ∃ k30 : Nat,
     ∃ n31 : Int,
     (
      Row w26 { block := b9, off := (0 : Nat) } (0 : Nat) [Value.int IntKind.i64 n27, Value.slice p28 k29 k30, Value.int IntKind.i64 n31]) ∧
     R (Ending.returned (Value.tuple #[Value.agg #[Value.int IntKind.i64 n27, Value.slice p28 k29 k30, Value.int IntKind.i64 n31], Value.int IntKind.i64 (2 : Int)])) w26)
    (
     Br (decide (n6 < (0 : Int)))
      (
       (
        WrRow w17 { block := b9, off := (0 : Nat) } (0 : Nat) [Value.int IntKind.i64 (0 : Int), Value.slice none (0 : Nat) (0 : Nat), Value.int IntKind.i64 (0 : Int)]) ∧
       LetW (setRow w17 { block := b9, off := (0 : Nat) } (0 : Nat) [Value.int IntKind.i64 (0 : Int), Value.slice none (0 : Nat) (0 : Nat), Value.int IntKind.i64 (0 : Int)]) fun w32 =>
       ∃ n33 : Int,
       ∃ p34 : Option Addr,
       ∃ k35 : Nat,
       ∃ k36 : Nat,
       ∃ n37 : Int,
       (
        Row w32 { block := b9, off := (0 : Nat) } (0 : Nat) [Value.int IntKind.i64 n33, Value.slice p34 k35 k36, Value.int IntKind.i64 n37]) ∧
       R (Ending.returned (Value.tuple #[Value.agg #[Value.int IntKind.i64 n33, Value.slice p34 k35 k36, Value.int IntKind.i64 n37], Value.int IntKind.i64 (2 : Int)])) w32)
      (
       Br (decide (n6 > (5 : Int)))
        (
         (
          WrRow w17 { block := b9, off := (0 : Nat) } (0 : Nat) [Value.int IntKind.i64 (0 : Int), Value.slice none (0 : Nat) (0 : Nat), Value.int IntKind.i64 (0 : Int)]) ∧
         LetW (setRow w17 { block := b9, off := (0 : Nat) } (0 : Nat) [Value.int IntKind.i64 (0 : Int), Value.slice none (0 : Nat) (0 : Nat), Value.int IntKind.i64 (0 : Int)]) fun w38 =>
         ∃ n39 : Int,
         ∃ p40 : Option Addr,
         ∃ k41 : Nat,
         ∃ k42 : Nat,
         ∃ n43 : Int,
         (
          Row w38 { block := b9, off := (0 : Nat) } (0 : Nat) [Value.int IntKind.i64 n39, Value.slice p40 k41 k42, Value.int IntKind.i64 n43]) ∧
         R (Ending.returned (Value.tuple #[Value.agg #[Value.int IntKind.i64 n39, Value.slice p40 k41 k42, Value.int IntKind.i64 n43], Value.int IntKind.i64 (2 : Int)])) w38)
        (
         ∃ n44 : Int,
         ∃ p45 : Option Addr,
         ∃ k46 : Nat,
         ∃ k47 : Nat,
         ∃ n48 : Int,
         (
          Row w17 { block := b7, off := (0 : Nat) } (0 : Nat) [Value.int IntKind.i64 n44, Value.slice p45 k46 k47, Value.int IntKind.i64 n48]) ∧
         Ca Try.prog (65 : Nat) #[Value.agg #[Value.int IntKind.i64 n44, Value.slice p45 k46 k47, Value.int IntKind.i64 n48], Value.int IntKind.i64 n6] w17 fun e49 w50 =>
         ∃ n51 : Int,
         (
          e49 = Ending.returned (Value.int IntKind.i64 n51)) ∧
         Br (decide (n51 ≥ (0 : Int)))
          (
           (
            WrRow w50 { block := b9, off := (0 : Nat) } (0 : Nat) [Value.int IntKind.i64 (0 : Int), Value.slice none (0 : Nat) (0 : Nat), Value.int IntKind.i64 (0 : Int)]) ∧
           LetW (setRow w50 { block := b9, off := (0 : Nat) } (0 : Nat) [Value.int IntKind.i64 (0 : Int), Value.slice none (0 : Nat) (0 : Nat), Value.int IntKind.i64 (0 : Int)]) fun w52 =>
           ∃ n53 : Int,
           ∃ p54 : Option Addr,
           ∃ k55 : Nat,
           ∃ k56 : Nat,
           ∃ n57 : Int,
           (
            Row w52 { block := b9, off := (0 : Nat) } (0 : Nat) [Value.int IntKind.i64 n53, Value.slice p54 k55 k56, Value.int IntKind.i64 n57]) ∧
           R (Ending.returned (Value.tuple #[Value.agg #[Value.int IntKind.i64 n53, Value.slice p54 k55 k56, Value.int IntKind.i64 n57], Value.int IntKind.i64 (62 : Int)])) w52)
          (
           ∃ p58 : Option Addr,
           ∃ k59 : Nat,
           ∃ k60 : Nat,
           (
            w50.cell? { block := b7, off := (1 : Nat) } = some (Value.slice p58 k59 k60)) ∧
           ∃ n61 : Int,
           (
            w50.cell? { block := b7, off := (0 : Nat) } = some (Value.int IntKind.i64 n61)) ∧
           LetI (IntKind.i64.wrap (n61 + (1 : Int))) fun n62 =>
           (
            RunsV Try.prog (Builtin.append_ #[(35 : Nat), (35 : Nat)] (35 : Nat) #[Value.slice none (0 : Nat) (0 : Nat), Value.slice p58 k59 k60]) w50 fun v63 w64 =>
            ∃ p65 : Option Addr,
            ∃ k66 : Nat,
            ∃ k67 : Nat,
            (
             v63 = Value.slice p65 k66 k67) ∧
            (
             w64.cell? { block := b7, off := (0 : Nat) } = some (Value.int IntKind.i64 n61)) ∧
            LetA (Obj.cells #[Value.int IntKind.i64 n6, Value.int IntKind.i64 n62] (43 : Nat)) w64 fun b68 w69 =>
            RunsV Try.prog (Builtin.append_ #[(35 : Nat), (35 : Nat)] (35 : Nat) #[Value.slice p65 k66 k67, Value.slice (some { block := b68, off := (0 : Nat) }) (1 : Nat) (1 : Nat)]) w69 fun v70 w71 =>
            ∃ p72 : Option Addr,
            ∃ k73 : Nat,
            ∃ k74 : Nat,
            (
             v70 = Value.slice p72 k73 k74) ∧
            ∃ n75 : Int,
            (
             w71.cell? { block := b7, off := (0 : Nat) } = some (Value.int IntKind.i64 n75)) ∧
            LetI (IntKind.i64.wrap (n75 + (1 : Int))) fun n76 =>
            ∃ n77 : Int,
            (
             w71.cell? { block := b7, off := (2 : Nat) } = some (Value.int IntKind.i64 n77)) ∧
            (
             WrRow w71 { block := b9, off := (0 : Nat) } (0 : Nat) [Value.int IntKind.i64 n76, Value.slice p72 k73 k74, Value.int IntKind.i64 n77]) ∧
            LetW (setRow w71 { block := b9, off := (0 : Nat) } (0 : Nat) [Value.int IntKind.i64 n76, Value.slice p72 k73 k74, Value.int IntKind.i64 n77]) fun w78 =>
            ∃ n79 : Int,
            ∃ p80 : Option Addr,
            ∃ k81 : Nat,
            ∃ k82 : Nat,
            ∃ n83 : Int,
            (
             Row w78 { block := b9, off := (0 : Nat) } (0 : Nat) [Value.int IntKind.i64 n79, Value.slice p80 k81 k82, Value.int IntKind.i64 n83]) ∧
            R (Ending.returned (Value.tuple #[Value.agg #[Value.int IntKind.i64 n79, Value.slice p80 k81 k82, Value.int IntKind.i64 n83], Value.int IntKind.i64 (0 : Int)])) w78) ∧
           LetA (Obj.cells #[Value.int IntKind.i64 n6, Value.int IntKind.i64 n62] (43 : Nat)) w50 fun b84 w85 =>
           (
            w85.cell? { block := b7, off := (1 : Nat) } = some (Value.slice p58 k59 k60)) ∧
           RunsV Try.prog (Builtin.append_ #[(35 : Nat), (35 : Nat)] (35 : Nat) #[Value.slice none (0 : Nat) (0 : Nat), Value.slice p58 k59 k60]) w85 fun v86 w87 =>
           ∃ p88 : Option Addr,
           ∃ k89 : Nat,
           ∃ k90 : Nat,
           (
            v86 = Value.slice p88 k89 k90) ∧
           RunsV Try.prog (Builtin.append_ #[(35 : Nat), (35 : Nat)] (35 : Nat) #[Value.slice p88 k89 k90, Value.slice (some { block := b84, off := (0 : Nat) }) (1 : Nat) (1 : Nat)]) w87 fun v91 w92 =>
           ∃ p93 : Option Addr,
           ∃ k94 : Nat,
           ∃ k95 : Nat,
           (
            v91 = Value.slice p93 k94 k95) ∧
           ∃ n96 : Int,
           (
            w92.cell? { block := b7, off := (0 : Nat) } = some (Value.int IntKind.i64 n96)) ∧
           LetI (IntKind.i64.wrap (n96 + (1 : Int))) fun n97 =>
           ∃ n98 : Int,
           (
            w92.cell? { block := b7, off := (2 : Nat) } = some (Value.int IntKind.i64 n98)) ∧
           (
            WrRow w92 { block := b9, off := (0 : Nat) } (0 : Nat) [Value.int IntKind.i64 n97, Value.slice p93 k94 k95, Value.int IntKind.i64 n98]) ∧
           LetW (setRow w92 { block := b9, off := (0 : Nat) } (0 : Nat) [Value.int IntKind.i64 n97, Value.slice p93 k94 k95, Value.int IntKind.i64 n98]) fun w99 =>
           ∃ n100 : Int,
           ∃ p101 : Option Addr,
           ∃ k102 : Nat,
           ∃ k103 : Nat,
           ∃ n104 : Int,
           (
            Row w99 { block := b9, off := (0 : Nat) } (0 : Nat) [Value.int IntKind.i64 n100, Value.slice p101 k102 k103, Value.int IntKind.i64 n104]) ∧
           R (Ending.returned (Value.tuple #[Value.agg #[Value.int IntKind.i64 n100, Value.slice p101 k102 k103, Value.int IntKind.i64 n104], Value.int IntKind.i64 (0 : Int)])) w99)))))
theorem rwith_ok (n1 : Int) (p2 : Option Addr) (k3 : Nat) (k4 : Nat) (n5 : Int) (n6 : Int) (w : World) (R : Ending → World → Prop) (h : rwith n1 p2 k3 k4 n5 n6 w R) : Ca Try.prog 28 #[Value.agg #[Value.int IntKind.i64 n1, Value.slice p2 k3 k4, Value.int IntKind.i64 n5], Value.int IntKind.i64 n6] w R :=
  Ca.of_fvc (c := bodyOf Try.f28) (by kernel_rfl) Try.func28 (by kernel_rfl) [] (Eq.mp (by kernel_rfl) h)

def rwithout (n1 : Int) (p2 : Option Addr) (k3 : Nat) (k4 : Nat) (n5 : Int) (n6 : Int) (w : World) (R : Ending → World → Prop) : Prop :=
 LetA (Obj.cells #[Value.int IntKind.i64 n1, Value.slice p2 k3 k4, Value.int IntKind.i64 n5] (37 : Nat)) w fun b7 w8 =>
 LetA (Obj.cells #[Value.int IntKind.i64 (0 : Int), Value.slice none (0 : Nat) (0 : Nat), Value.int IntKind.i64 (0 : Int)] (37 : Nat)) w8 fun b9 w10 =>
 ∃ n11 : Int,
 ∃ p12 : Option Addr,
 ∃ k13 : Nat,
 ∃ k14 : Nat,
 ∃ n15 : Int,
 (
  Row w10 { block := b7, off := (0 : Nat) } (0 : Nat) [Value.int IntKind.i64 n11, Value.slice p12 k13 k14, Value.int IntKind.i64 n15]) ∧
 Ca Try.prog (68 : Nat) #[Value.agg #[Value.int IntKind.i64 n11, Value.slice p12 k13 k14, Value.int IntKind.i64 n15], Value.int IntKind.i64 n6] w10 fun e16 w17 =>
 ∃ n18 : Int,
 (
  e16 = Ending.returned (Value.int IntKind.i64 n18)) ∧
 Br (n18 != (0 : Int))
  (
   (
    WrRow w17 { block := b9, off := (0 : Nat) } (0 : Nat) [Value.int IntKind.i64 (0 : Int), Value.slice none (0 : Nat) (0 : Nat), Value.int IntKind.i64 (0 : Int)]) ∧
   LetW (setRow w17 { block := b9, off := (0 : Nat) } (0 : Nat) [Value.int IntKind.i64 (0 : Int), Value.slice none (0 : Nat) (0 : Nat), Value.int IntKind.i64 (0 : Int)]) fun w19 =>
   ∃ n20 : Int,
   ∃ p21 : Option Addr,
   ∃ k22 : Nat,
   ∃ k23 : Nat,
   ∃ n24 : Int,
   (
    Row w19 { block := b9, off := (0 : Nat) } (0 : Nat) [Value.int IntKind.i64 n20, Value.slice p21 k22 k23, Value.int IntKind.i64 n24]) ∧
   R (Ending.returned (Value.tuple #[Value.agg #[Value.int IntKind.i64 n20, Value.slice p21 k22 k23, Value.int IntKind.i64 n24], Value.int IntKind.i64 n18])) w19)
  (
   ∃ n25 : Int,
   (
    w17.cell? { block := b7, off := (0 : Nat) } = some (Value.int IntKind.i64 n25)) ∧
   LetI (IntKind.i64.wrap (n25 + (1 : Int))) fun n26 =>
   ∃ n27 : Int,
   (
    w17.cell? { block := b7, off := (2 : Nat) } = some (Value.int IntKind.i64 n27)) ∧
   LetA (Obj.cells #[Value.int IntKind.i64 (0 : Int), Value.slice none (0 : Nat) (0 : Nat), Value.int IntKind.i64 (0 : Int)] (37 : Nat)) w17 fun b28 w29 =>
   (
    WrRow w29 { block := b28, off := (0 : Nat) } (0 : Nat) [Value.int IntKind.i64 n26, Value.slice none (0 : Nat) (0 : Nat), Value.int IntKind.i64 n27]) ∧
   LetW (setRow w29 { block := b28, off := (0 : Nat) } (0 : Nat) [Value.int IntKind.i64 n26, Value.slice none (0 : Nat) (0 : Nat), Value.int IntKind.i64 n27]) fun w30 =>
   ∃ I31 : Nat → List Value → World → Prop,
   (
    ∃ k32 : Nat,
    I31 k32 [Value.int IntKind.i64 (0 : Int)] w30) ∧
   ∀ n33 : Int,
   ∀ k34 : Nat,
   ∀ w35 : World,
   (
    I31 k34 [Value.int IntKind.i64 n33] w35) →
   ∃ p36 : Option Addr,
   ∃ k37 : Nat,
   ∃ k38 : Nat,
   (
    w35.cell? { block := b7, off := (1 : Nat) } = some (Value.slice p36 k37 k38)) ∧
   Br (decide (n33 < (↑k37 : Int)))
    (
     ∃ p39 : Option Addr,
     ∃ k40 : Nat,
     ∃ k41 : Nat,
     (
      w35.cell? { block := b7, off := (1 : Nat) } = some (Value.slice p39 k40 k41)) ∧
     NilOk p39 fun a42 =>
     (
      (
       (0 : Int) ≤ n33) ∧
      n33 < (↑k40 : Int)) ∧
     ∃ n43 : Int,
     (
      w35.cell? (a42.add (n33.toNat * (2 : Nat))) = some (Value.int IntKind.i64 n43)) ∧
     Br (n43 != n6)
      (
       ∃ p44 : Option Addr,
       ∃ k45 : Nat,
       ∃ k46 : Nat,
       (
        w35.cell? { block := b28, off := (1 : Nat) } = some (Value.slice p44 k45 k46)) ∧
       ∃ p47 : Option Addr,
       ∃ k48 : Nat,
       ∃ k49 : Nat,
       (
        w35.cell? { block := b7, off := (1 : Nat) } = some (Value.slice p47 k48 k49)) ∧
       NilOk p47 fun a50 =>
       (
        (
         (0 : Int) ≤ n33) ∧
        n33 < (↑k48 : Int)) ∧
       ∃ n51 : Int,
       ∃ n52 : Int,
       (
        Row w35 (a50.add (n33.toNat * (2 : Nat))) (0 : Nat) [Value.int IntKind.i64 n51, Value.int IntKind.i64 n52]) ∧
       LetA (Obj.cells #[Value.int IntKind.i64 n51, Value.int IntKind.i64 n52] (43 : Nat)) w35 fun b53 w54 =>
       (
        w54.cell? { block := b28, off := (1 : Nat) } = some (Value.slice p44 k45 k46)) ∧
       RunsV Try.prog (Builtin.append_ #[(35 : Nat), (35 : Nat)] (35 : Nat) #[Value.slice p44 k45 k46, Value.slice (some { block := b53, off := (0 : Nat) }) (1 : Nat) (1 : Nat)]) w54 fun v55 w56 =>
       ∃ p57 : Option Addr,
       ∃ k58 : Nat,
       ∃ k59 : Nat,
       (
        v55 = Value.slice p57 k58 k59) ∧
       (
        Wr w56 { block := b28, off := (1 : Nat) }) ∧
       LetW (w56.setCell { block := b28, off := (1 : Nat) } (Value.slice p57 k58 k59)) fun w60 =>
       LetI (IntKind.i64.wrap (n33 + (1 : Int))) fun n61 =>
       ∃ k62 : Nat,
       (
        k62 < k34) ∧
       I31 k62 [Value.int IntKind.i64 n61] w60)
      (
       LetI (IntKind.i64.wrap (n33 + (1 : Int))) fun n63 =>
       ∃ k64 : Nat,
       (
        k64 < k34) ∧
       I31 k64 [Value.int IntKind.i64 n63] w35))
    (
     ∃ n65 : Int,
     (
      w35.cell? { block := b7, off := (2 : Nat) } = some (Value.int IntKind.i64 n65)) ∧
     Br (n65 == n6)
      (
       (
        Wr w35 { block := b28, off := (2 : Nat) }) ∧
       LetW (w35.setCell { block := b28, off := (2 : Nat) } (Value.int IntKind.i64 (-1 : Int))) fun w66 =>
       ∃ n67 : Int,
       ∃ p68 : Option Addr,
       ∃ k69 : Nat,
       ∃ k70 : Nat,
       ∃ n71 : Int,
       (
        Row w66 { block := b28, off := (0 : Nat) } (0 : Nat) [Value.int IntKind.i64 n67, Value.slice p68 k69 k70, Value.int IntKind.i64 n71]) ∧
       (
        WrRow w66 { block := b9, off := (0 : Nat) } (0 : Nat) [Value.int IntKind.i64 n67, Value.slice p68 k69 k70, Value.int IntKind.i64 n71]) ∧
       LetW (setRow w66 { block := b9, off := (0 : Nat) } (0 : Nat) [Value.int IntKind.i64 n67, Value.slice p68 k69 k70, Value.int IntKind.i64 n71]) fun w72 =>
       ∃ n73 : Int,
       ∃ p74 : Option Addr,
       ∃ k75 : Nat,
       ∃ k76 : Nat,
       ∃ n77 : Int,
       (
        Row w72 { block := b9, off := (0 : Nat) } (0 : Nat) [Value.int IntKind.i64 n73, Value.slice p74 k75 k76, Value.int IntKind.i64 n77]) ∧
       R (Ending.returned (Value.tuple #[Value.agg #[Value.int IntKind.i64 n73, Value.slice p74 k75 k76, Value.int IntKind.i64 n77], Value.int IntKind.i64 (0 : Int)])) w72)
      (
       ∃ n78 : Int,
       ∃ p79 : Option Addr,
       ∃ k80 : Nat,
       ∃ k81 : Nat,
       ∃ n82 : Int,
       (
        Row w35 { block := b28, off := (0 : Nat) } (0 : Nat) [Value.int IntKind.i64 n78, Value.slice p79 k80 k81, Value.int IntKind.i64 n82]) ∧
       (
        WrRow w35 { block := b9, off := (0 : Nat) } (0 : Nat) [Value.int IntKind.i64 n78, Value.slice p79 k80 k81, Value.int IntKind.i64 n82]) ∧
       LetW (setRow w35 { block := b9, off := (0 : Nat) } (0 : Nat) [Value.int IntKind.i64 n78, Value.slice p79 k80 k81, Value.int IntKind.i64 n82]) fun w83 =>
       ∃ n84 : Int,
       ∃ p85 : Option Addr,
       ∃ k86 : Nat,
       ∃ k87 : Nat,
       ∃ n88 : Int,
       (
        Row w83 { block := b9, off := (0 : Nat) } (0 : Nat) [Value.int IntKind.i64 n84, Value.slice p85 k86 k87, Value.int IntKind.i64 n88]) ∧
       R (Ending.returned (Value.tuple #[Value.agg #[Value.int IntKind.i64 n84, Value.slice p85 k86 k87, Value.int IntKind.i64 n88], Value.int IntKind.i64 (0 : Int)])) w83)))
theorem rwithout_ok (n1 : Int) (p2 : Option Addr) (k3 : Nat) (k4 : Nat) (n5 : Int) (n6 : Int) (w : World) (R : Ending → World → Prop) (h : rwithout n1 p2 k3 k4 n5 n6 w R) : Ca Try.prog 30 #[Value.agg #[Value.int IntKind.i64 n1, Value.slice p2 k3 k4, Value.int IntKind.i64 n5], Value.int IntKind.i64 n6] w R :=
  Ca.of_fvc (c := bodyOf Try.f30) (by kernel_rfl) Try.func30 (by kernel_rfl) [] (Eq.mp (by kernel_rfl) h)

def rdrain (n1 : Int) (p2 : Option Addr) (k3 : Nat) (k4 : Nat) (n5 : Int) (n6 : Int) (w : World) (R : Ending → World → Prop) : Prop :=
 LetA (Obj.cells #[Value.int IntKind.i64 n1, Value.slice p2 k3 k4, Value.int IntKind.i64 n5] (37 : Nat)) w fun b7 w8 =>
 LetA (Obj.cells #[Value.int IntKind.i64 (0 : Int), Value.slice none (0 : Nat) (0 : Nat), Value.int IntKind.i64 (0 : Int)] (37 : Nat)) w8 fun b9 w10 =>
 ∃ n11 : Int,
 ∃ p12 : Option Addr,
 ∃ k13 : Nat,
 ∃ k14 : Nat,
 ∃ n15 : Int,
 (
  Row w10 { block := b7, off := (0 : Nat) } (0 : Nat) [Value.int IntKind.i64 n11, Value.slice p12 k13 k14, Value.int IntKind.i64 n15]) ∧
 Ca Try.prog (68 : Nat) #[Value.agg #[Value.int IntKind.i64 n11, Value.slice p12 k13 k14, Value.int IntKind.i64 n15], Value.int IntKind.i64 n6] w10 fun e16 w17 =>
 ∃ n18 : Int,
 (
  e16 = Ending.returned (Value.int IntKind.i64 n18)) ∧
 Br (n18 != (0 : Int))
  (
   (
    WrRow w17 { block := b9, off := (0 : Nat) } (0 : Nat) [Value.int IntKind.i64 (0 : Int), Value.slice none (0 : Nat) (0 : Nat), Value.int IntKind.i64 (0 : Int)]) ∧
   LetW (setRow w17 { block := b9, off := (0 : Nat) } (0 : Nat) [Value.int IntKind.i64 (0 : Int), Value.slice none (0 : Nat) (0 : Nat), Value.int IntKind.i64 (0 : Int)]) fun w19 =>
   ∃ n20 : Int,
   ∃ p21 : Option Addr,
   ∃ k22 : Nat,
   ∃ k23 : Nat,
   ∃ n24 : Int,
   (
    Row w19 { block := b9, off := (0 : Nat) } (0 : Nat) [Value.int IntKind.i64 n20, Value.slice p21 k22 k23, Value.int IntKind.i64 n24]) ∧
   R (Ending.returned (Value.tuple #[Value.agg #[Value.int IntKind.i64 n20, Value.slice p21 k22 k23, Value.int IntKind.i64 n24], Value.int IntKind.i64 n18])) w19)
  (
   ∃ n25 : Int,
   (
    w17.cell? { block := b7, off := (2 : Nat) } = some (Value.int IntKind.i64 n25)) ∧
   Br (n25 != (-1 : Int))
    (
     (
      WrRow w17 { block := b9, off := (0 : Nat) } (0 : Nat) [Value.int IntKind.i64 (0 : Int), Value.slice none (0 : Nat) (0 : Nat), Value.int IntKind.i64 (0 : Int)]) ∧
     LetW (setRow w17 { block := b9, off := (0 : Nat) } (0 : Nat) [Value.int IntKind.i64 (0 : Int), Value.slice none (0 : Nat) (0 : Nat), Value.int IntKind.i64 (0 : Int)]) fun w26 =>
     ∃ n27 : Int,
     ∃ p28 : Option Addr,
     ∃ k29 : Nat,
     ∃ k30 : Nat,
     ∃ n31 : Int,
     (
      Row w26 { block := b9, off := (0 : Nat) } (0 : Nat) [Value.int IntKind.i64 n27, Value.slice p28 k29 k30, Value.int IntKind.i64 n31]) ∧
     R (Ending.returned (Value.tuple #[Value.agg #[Value.int IntKind.i64 n27, Value.slice p28 k29 k30, Value.int IntKind.i64 n31], Value.int IntKind.i64 (62 : Int)])) w26)
    (
     ∃ n32 : Int,
     (
      w17.cell? { block := b7, off := (0 : Nat) } = some (Value.int IntKind.i64 n32)) ∧
     LetI (IntKind.i64.wrap (n32 + (1 : Int))) fun n33 =>
     ∃ p34 : Option Addr,
     ∃ k35 : Nat,
     ∃ k36 : Nat,
     (
      w17.cell? { block := b7, off := (1 : Nat) } = some (Value.slice p34 k35 k36)) ∧
     RunsV Try.prog (Builtin.append_ #[(35 : Nat), (35 : Nat)] (35 : Nat) #[Value.slice none (0 : Nat) (0 : Nat), Value.slice p34 k35 k36]) w17 fun v37 w38 =>
     ∃ p39 : Option Addr,
     ∃ k40 : Nat,
     ∃ k41 : Nat,
     (
      v37 = Value.slice p39 k40 k41) ∧
     (
      w38.cell? { block := b7, off := (0 : Nat) } = some (Value.int IntKind.i64 n32)) ∧
     (
      WrRow w38 { block := b9, off := (0 : Nat) } (0 : Nat) [Value.int IntKind.i64 n33, Value.slice p39 k40 k41, Value.int IntKind.i64 n6]) ∧
     LetW (setRow w38 { block := b9, off := (0 : Nat) } (0 : Nat) [Value.int IntKind.i64 n33, Value.slice p39 k40 k41, Value.int IntKind.i64 n6]) fun w42 =>
     ∃ n43 : Int,
     ∃ p44 : Option Addr,
     ∃ k45 : Nat,
     ∃ k46 : Nat,
     ∃ n47 : Int,
     (
      Row w42 { block := b9, off := (0 : Nat) } (0 : Nat) [Value.int IntKind.i64 n43, Value.slice p44 k45 k46, Value.int IntKind.i64 n47]) ∧
     R (Ending.returned (Value.tuple #[Value.agg #[Value.int IntKind.i64 n43, Value.slice p44 k45 k46, Value.int IntKind.i64 n47], Value.int IntKind.i64 (0 : Int)])) w42))
theorem rdrain_ok (n1 : Int) (p2 : Option Addr) (k3 : Nat) (k4 : Nat) (n5 : Int) (n6 : Int) (w : World) (R : Ending → World → Prop) (h : rdrain n1 p2 k3 k4 n5 n6 w R) : Ca Try.prog 32 #[Value.agg #[Value.int IntKind.i64 n1, Value.slice p2 k3 k4, Value.int IntKind.i64 n5], Value.int IntKind.i64 n6] w R :=
  Ca.of_fvc (c := bodyOf Try.f32) (by kernel_rfl) Try.func32 (by kernel_rfl) [] (Eq.mp (by kernel_rfl) h)

def rnumbers (s1 : ByteArray) (w : World) (R : Ending → World → Prop) : Prop :=
 ∃ I2 : Nat → List Value → World → Prop,
 (
  ∃ k3 : Nat,
  I2 k3 [Value.slice none (0 : Nat) (0 : Nat), Value.slice none (0 : Nat) (0 : Nat), Value.string s1] w) ∧
 ∀ p4 : Option Addr,
 ∀ k5 : Nat,
 ∀ k6 : Nat,
 ∀ p7 : Option Addr,
 ∀ k8 : Nat,
 ∀ k9 : Nat,
 ∀ s10 : ByteArray,
 ∀ k11 : Nat,
 ∀ w12 : World,
 (
  I2 k11 [Value.slice p4 k5 k6, Value.slice p7 k8 k9, Value.string s10] w12) →
 Br (decide ((↑s10.size : Int) > (0 : Int)))
  (
   Ca Try.prog (60 : Nat) #[Value.string s10] w12 fun e13 w14 =>
   ∃ n15 : Int,
   ∃ s16 : ByteArray,
   ∃ b17 : Bool,
   (
    e13 = Ending.returned (Value.tuple #[Value.int IntKind.i64 n15, Value.string s16, Value.bool b17])) ∧
   Br (!b17)
    (
     R (Ending.returned (Value.slice none (0 : Nat) (0 : Nat))) w14)
    (
     LetA (Obj.cells #[Value.int IntKind.i64 n15] (3 : Nat)) w14 fun b18 w19 =>
     RunsV Try.prog (Builtin.append_ #[(83 : Nat), (83 : Nat)] (83 : Nat) #[Value.slice p7 k8 k9, Value.slice (some { block := b18, off := (0 : Nat) }) (1 : Nat) (1 : Nat)]) w19 fun v20 w21 =>
     ∃ p22 : Option Addr,
     ∃ k23 : Nat,
     ∃ k24 : Nat,
     (
      v20 = Value.slice p22 k23 k24) ∧
     ∃ k25 : Nat,
     (
      k25 < k11) ∧
     I2 k25 [Value.slice p4 k5 k6, Value.slice p22 k23 k24, Value.string s16] w21))
  (
   R (Ending.returned (Value.slice p7 k8 k9)) w12)
theorem rnumbers_ok (s1 : ByteArray) (w : World) (R : Ending → World → Prop) (h : rnumbers s1 w R) : Ca Try.prog 72 #[Value.string s1] w R :=
  Ca.of_fvc (c := bodyOf Try.f72) (by kernel_rfl) Try.func72 (by kernel_rfl) [] (Eq.mp (by kernel_rfl) h)

def rcput (n1 : Int) (p2 : Option Addr) (k3 : Nat) (k4 : Nat) (n5 : Int) (w : World) (R : Ending → World → Prop) : Prop :=
 LetA (Obj.cells #[Value.int IntKind.i64 n1, Value.slice p2 k3 k4, Value.int IntKind.i64 n5] (37 : Nat)) w fun b6 w7 =>
 ∃ n8 : Int,
 ∃ p9 : Option Addr,
 ∃ k10 : Nat,
 ∃ k11 : Nat,
 ∃ n12 : Int,
 (
  Row w7 { block := b6, off := (0 : Nat) } (0 : Nat) [Value.int IntKind.i64 n8, Value.slice p9 k10 k11, Value.int IntKind.i64 n12]) ∧
 Ca Try.prog (64 : Nat) #[Value.agg #[Value.int IntKind.i64 n8, Value.slice p9 k10 k11, Value.int IntKind.i64 n12]] w7 fun e13 w14 =>
 ∃ n15 : Int,
 (
  e13 = Ending.returned (Value.int IntKind.i64 n15)) ∧
 Br (n15 != (0 : Int))
  (
   R (Ending.returned (Value.tuple #[Value.string { data := #[] }, Value.int IntKind.i64 (2 : Int)])) w14)
  (
   ∃ n16 : Int,
   (
    w14.cell? { block := b6, off := (0 : Nat) } = some (Value.int IntKind.i64 n16)) ∧
   ∃ p17 : Option Addr,
   ∃ k18 : Nat,
   ∃ k19 : Nat,
   (
    w14.cell? { block := b6, off := (1 : Nat) } = some (Value.slice p17 k18 k19)) ∧
   Ca Try.prog (56 : Nat) #[Value.int IntKind.i64 n16] w14 fun e20 w21 =>
   ∃ s22 : ByteArray,
   (
    e20 = Ending.returned (Value.string s22)) ∧
   (
    w21.cell? { block := b6, off := (1 : Nat) } = some (Value.slice p17 k18 k19)) ∧
   Ca Try.prog (56 : Nat) #[Value.int IntKind.i64 (↑k18 : Int)] w21 fun e23 w24 =>
   ∃ s25 : ByteArray,
   (
    e23 = Ending.returned (Value.string s25)) ∧
   (
    (↑(s22.size + s25.size) : Int) ≤ IntKind.i64.max) ∧
   ∃ I26 : Nat → List Value → World → Prop,
   (
    ∃ k27 : Nat,
    I26 k27 [Value.string (s22 ++ s25), Value.int IntKind.i64 (0 : Int)] w24) ∧
   ∀ s28 : ByteArray,
   ∀ n29 : Int,
   ∀ k30 : Nat,
   ∀ w31 : World,
   (
    I26 k30 [Value.string s28, Value.int IntKind.i64 n29] w31) →
   ∃ p32 : Option Addr,
   ∃ k33 : Nat,
   ∃ k34 : Nat,
   (
    w31.cell? { block := b6, off := (1 : Nat) } = some (Value.slice p32 k33 k34)) ∧
   Br (decide (n29 < (↑k33 : Int)))
    (
     ∃ p35 : Option Addr,
     ∃ k36 : Nat,
     ∃ k37 : Nat,
     (
      w31.cell? { block := b6, off := (1 : Nat) } = some (Value.slice p35 k36 k37)) ∧
     NilOk p35 fun a38 =>
     (
      (
       (0 : Int) ≤ n29) ∧
      n29 < (↑k36 : Int)) ∧
     ∃ n39 : Int,
     (
      w31.cell? (a38.add (n29.toNat * (2 : Nat))) = some (Value.int IntKind.i64 n39)) ∧
     ∃ p40 : Option Addr,
     ∃ k41 : Nat,
     ∃ k42 : Nat,
     (
      w31.cell? { block := b6, off := (1 : Nat) } = some (Value.slice p40 k41 k42)) ∧
     NilOk p40 fun a43 =>
     (
      (
       (0 : Int) ≤ n29) ∧
      n29 < (↑k41 : Int)) ∧
     ∃ n44 : Int,
     (
      w31.cell? ((a43.add (n29.toNat * (2 : Nat))).add (1 : Nat)) = some (Value.int IntKind.i64 n44)) ∧
     Ca Try.prog (56 : Nat) #[Value.int IntKind.i64 n39] w31 fun e45 w46 =>
     ∃ s47 : ByteArray,
     (
      e45 = Ending.returned (Value.string s47)) ∧
     (
      w46.cell? ((a43.add (n29.toNat * (2 : Nat))).add (1 : Nat)) = some (Value.int IntKind.i64 n44)) ∧
     (
      w46.cell? { block := b6, off := (1 : Nat) } = some (Value.slice p40 k41 k42)) ∧
     (
      (↑(s28.size + s47.size) : Int) ≤ IntKind.i64.max) ∧
     Ca Try.prog (56 : Nat) #[Value.int IntKind.i64 n44] w46 fun e48 w49 =>
     ∃ s50 : ByteArray,
     (
      e48 = Ending.returned (Value.string s50)) ∧
     (
      (↑((s28 ++ s47).size + s50.size) : Int) ≤ IntKind.i64.max) ∧
     LetI (IntKind.i64.wrap (n29 + (1 : Int))) fun n51 =>
     ∃ k52 : Nat,
     (
      k52 < k30) ∧
     I26 k52 [Value.string (s28 ++ s47 ++ s50), Value.int IntKind.i64 n51] w49)
    (
     ∃ n53 : Int,
     (
      w31.cell? { block := b6, off := (2 : Nat) } = some (Value.int IntKind.i64 n53)) ∧
     Ca Try.prog (56 : Nat) #[Value.int IntKind.i64 n53] w31 fun e54 w55 =>
     ∃ s56 : ByteArray,
     (
      e54 = Ending.returned (Value.string s56)) ∧
     (
      (↑(s28.size + s56.size) : Int) ≤ IntKind.i64.max) ∧
     R (Ending.returned (Value.tuple #[Value.string (s28 ++ s56), Value.int IntKind.i64 (0 : Int)])) w55))
theorem rcput_ok (n1 : Int) (p2 : Option Addr) (k3 : Nat) (k4 : Nat) (n5 : Int) (w : World) (R : Ending → World → Prop) (h : rcput n1 p2 k3 k4 n5 w R) : Ca Try.prog 73 #[Value.agg #[Value.int IntKind.i64 n1, Value.slice p2 k3 k4, Value.int IntKind.i64 n5]] w R :=
  Ca.of_fvc (c := bodyOf Try.f73) (by kernel_rfl) Try.func73 (by kernel_rfl) [] (Eq.mp (by kernel_rfl) h)

def rcget (s1 : ByteArray) (w : World) (R : Ending → World → Prop) : Prop :=
 LetA (Obj.cells #[Value.int IntKind.i64 (0 : Int), Value.slice none (0 : Nat) (0 : Nat), Value.int IntKind.i64 (0 : Int)] (37 : Nat)) w fun b2 w3 =>
 Ca Try.prog (72 : Nat) #[Value.string s1] w3 fun e4 w5 =>
 ∃ p6 : Option Addr,
 ∃ k7 : Nat,
 ∃ k8 : Nat,
 (
  e4 = Ending.returned (Value.slice p6 k7 k8)) ∧
 Br (decide ((↑k7 : Int) < (5 : Int)))
  (
   (
    WrRow w5 { block := b2, off := (0 : Nat) } (0 : Nat) [Value.int IntKind.i64 (0 : Int), Value.slice none (0 : Nat) (0 : Nat), Value.int IntKind.i64 (0 : Int)]) ∧
   LetW (setRow w5 { block := b2, off := (0 : Nat) } (0 : Nat) [Value.int IntKind.i64 (0 : Int), Value.slice none (0 : Nat) (0 : Nat), Value.int IntKind.i64 (0 : Int)]) fun w9 =>
   ∃ n10 : Int,
   ∃ p11 : Option Addr,
   ∃ k12 : Nat,
   ∃ k13 : Nat,
   ∃ n14 : Int,
   (
    Row w9 { block := b2, off := (0 : Nat) } (0 : Nat) [Value.int IntKind.i64 n10, Value.slice p11 k12 k13, Value.int IntKind.i64 n14]) ∧
   R (Ending.returned (Value.tuple #[Value.agg #[Value.int IntKind.i64 n10, Value.slice p11 k12 k13, Value.int IntKind.i64 n14], Value.int IntKind.i64 (10 : Int)])) w9)
  (
   (
    (2 : Int) ≠ (0 : Int)) ∧
   LetI ((↑k7 : Int).tmod (2 : Int)) fun n15 =>
   Br (n15 == (0 : Int))
    (
     (
      WrRow w5 { block := b2, off := (0 : Nat) } (0 : Nat) [Value.int IntKind.i64 (0 : Int), Value.slice none (0 : Nat) (0 : Nat), Value.int IntKind.i64 (0 : Int)]) ∧
     LetW (setRow w5 { block := b2, off := (0 : Nat) } (0 : Nat) [Value.int IntKind.i64 (0 : Int), Value.slice none (0 : Nat) (0 : Nat), Value.int IntKind.i64 (0 : Int)]) fun w16 =>
     ∃ n17 : Int,
     ∃ p18 : Option Addr,
     ∃ k19 : Nat,
     ∃ k20 : Nat,
     ∃ n21 : Int,
     (
      Row w16 { block := b2, off := (0 : Nat) } (0 : Nat) [Value.int IntKind.i64 n17, Value.slice p18 k19 k20, Value.int IntKind.i64 n21]) ∧
     R (Ending.returned (Value.tuple #[Value.agg #[Value.int IntKind.i64 n17, Value.slice p18 k19 k20, Value.int IntKind.i64 n21], Value.int IntKind.i64 (10 : Int)])) w16)
    (
     NilOk p6 fun a22 =>
     (
      (
       (0 : Int) ≤ (0 : Int)) ∧
      (0 : Int) < (↑k7 : Int)) ∧
     ∃ n23 : Int,
     (
      w5.cell? a22 = some (Value.int IntKind.i64 n23)) ∧
     LetI (IntKind.i64.wrap ((↑k7 : Int) - (1 : Int))) fun n24 =>
     NilOk p6 fun a25 =>
     (
      (
       (0 : Int) ≤ n24) ∧
      n24 < (↑k7 : Int)) ∧
     ∃ n26 : Int,
     (
      w5.cell? (a25.add (n24.toNat * (1 : Nat))) = some (Value.int IntKind.i64 n26)) ∧
     LetA (Obj.cells #[Value.int IntKind.i64 (0 : Int), Value.slice none (0 : Nat) (0 : Nat), Value.int IntKind.i64 (0 : Int)] (37 : Nat)) w5 fun b27 w28 =>
     (
      w28.cell? (a25.add (n24.toNat * (1 : Nat))) = some (Value.int IntKind.i64 n26)) ∧
     (
      w28.cell? a22 = some (Value.int IntKind.i64 n23)) ∧
     (
      WrRow w28 { block := b27, off := (0 : Nat) } (0 : Nat) [Value.int IntKind.i64 n23, Value.slice none (0 : Nat) (0 : Nat), Value.int IntKind.i64 n26]) ∧
     LetW (setRow w28 { block := b27, off := (0 : Nat) } (0 : Nat) [Value.int IntKind.i64 n23, Value.slice none (0 : Nat) (0 : Nat), Value.int IntKind.i64 n26]) fun w29 =>
     ∃ I30 : Nat → List Value → World → Prop,
     (
      ∃ k31 : Nat,
      I30 k31 [Value.int IntKind.i64 (2 : Int)] w29) ∧
     ∀ n32 : Int,
     ∀ k33 : Nat,
     ∀ w34 : World,
     (
      I30 k33 [Value.int IntKind.i64 n32] w34) →
     LetI (IntKind.i64.wrap (n32 + (1 : Int))) fun n35 =>
     Br (decide (n35 < (↑k7 : Int)))
      (
       ∃ p36 : Option Addr,
       ∃ k37 : Nat,
       ∃ k38 : Nat,
       (
        w34.cell? { block := b27, off := (1 : Nat) } = some (Value.slice p36 k37 k38)) ∧
       NilOk p6 fun a39 =>
       (
        (
         (0 : Int) ≤ n32) ∧
        n32 < (↑k7 : Int)) ∧
       ∃ n40 : Int,
       (
        w34.cell? (a39.add (n32.toNat * (1 : Nat))) = some (Value.int IntKind.i64 n40)) ∧
       LetI (IntKind.i64.wrap (n32 + (1 : Int))) fun n41 =>
       NilOk p6 fun a42 =>
       (
        (
         (0 : Int) ≤ n41) ∧
        n41 < (↑k7 : Int)) ∧
       ∃ n43 : Int,
       (
        w34.cell? (a42.add (n41.toNat * (1 : Nat))) = some (Value.int IntKind.i64 n43)) ∧
       LetA (Obj.cells #[Value.int IntKind.i64 n40, Value.int IntKind.i64 n43] (43 : Nat)) w34 fun b44 w45 =>
       (
        w45.cell? { block := b27, off := (1 : Nat) } = some (Value.slice p36 k37 k38)) ∧
       RunsV Try.prog (Builtin.append_ #[(35 : Nat), (35 : Nat)] (35 : Nat) #[Value.slice p36 k37 k38, Value.slice (some { block := b44, off := (0 : Nat) }) (1 : Nat) (1 : Nat)]) w45 fun v46 w47 =>
       ∃ p48 : Option Addr,
       ∃ k49 : Nat,
       ∃ k50 : Nat,
       (
        v46 = Value.slice p48 k49 k50) ∧
       (
        Wr w47 { block := b27, off := (1 : Nat) }) ∧
       LetW (w47.setCell { block := b27, off := (1 : Nat) } (Value.slice p48 k49 k50)) fun w51 =>
       LetI (IntKind.i64.wrap (n32 + (2 : Int))) fun n52 =>
       ∃ k53 : Nat,
       (
        k53 < k33) ∧
       I30 k53 [Value.int IntKind.i64 n52] w51)
      (
       ∃ n54 : Int,
       ∃ p55 : Option Addr,
       ∃ k56 : Nat,
       ∃ k57 : Nat,
       ∃ n58 : Int,
       (
        Row w34 { block := b27, off := (0 : Nat) } (0 : Nat) [Value.int IntKind.i64 n54, Value.slice p55 k56 k57, Value.int IntKind.i64 n58]) ∧
       Ca Try.prog (73 : Nat) #[Value.agg #[Value.int IntKind.i64 n54, Value.slice p55 k56 k57, Value.int IntKind.i64 n58]] w34 fun e59 w60 =>
       ∃ s61 : ByteArray,
       ∃ n62 : Int,
       (
        e59 = Ending.returned (Value.tuple #[Value.string s61, Value.int IntKind.i64 n62])) ∧
       Br (n62 != (0 : Int))
        (
         (
          WrRow w60 { block := b2, off := (0 : Nat) } (0 : Nat) [Value.int IntKind.i64 (0 : Int), Value.slice none (0 : Nat) (0 : Nat), Value.int IntKind.i64 (0 : Int)]) ∧
         LetW (setRow w60 { block := b2, off := (0 : Nat) } (0 : Nat) [Value.int IntKind.i64 (0 : Int), Value.slice none (0 : Nat) (0 : Nat), Value.int IntKind.i64 (0 : Int)]) fun w63 =>
         ∃ n64 : Int,
         ∃ p65 : Option Addr,
         ∃ k66 : Nat,
         ∃ k67 : Nat,
         ∃ n68 : Int,
         (
          Row w63 { block := b2, off := (0 : Nat) } (0 : Nat) [Value.int IntKind.i64 n64, Value.slice p65 k66 k67, Value.int IntKind.i64 n68]) ∧
         R (Ending.returned (Value.tuple #[Value.agg #[Value.int IntKind.i64 n64, Value.slice p65 k66 k67, Value.int IntKind.i64 n68], Value.int IntKind.i64 (10 : Int)])) w63)
        (
         Br (!s61.toList == s1.toList)
          (
           (
            WrRow w60 { block := b2, off := (0 : Nat) } (0 : Nat) [Value.int IntKind.i64 (0 : Int), Value.slice none (0 : Nat) (0 : Nat), Value.int IntKind.i64 (0 : Int)]) ∧
           LetW (setRow w60 { block := b2, off := (0 : Nat) } (0 : Nat) [Value.int IntKind.i64 (0 : Int), Value.slice none (0 : Nat) (0 : Nat), Value.int IntKind.i64 (0 : Int)]) fun w69 =>
           ∃ n70 : Int,
           ∃ p71 : Option Addr,
           ∃ k72 : Nat,
           ∃ k73 : Nat,
           ∃ n74 : Int,
           (
            Row w69 { block := b2, off := (0 : Nat) } (0 : Nat) [Value.int IntKind.i64 n70, Value.slice p71 k72 k73, Value.int IntKind.i64 n74]) ∧
           R (Ending.returned (Value.tuple #[Value.agg #[Value.int IntKind.i64 n70, Value.slice p71 k72 k73, Value.int IntKind.i64 n74], Value.int IntKind.i64 (10 : Int)])) w69)
          (
           ∃ n75 : Int,
           ∃ p76 : Option Addr,
           ∃ k77 : Nat,
           ∃ k78 : Nat,
           ∃ n79 : Int,
           (
            Row w60 { block := b27, off := (0 : Nat) } (0 : Nat) [Value.int IntKind.i64 n75, Value.slice p76 k77 k78, Value.int IntKind.i64 n79]) ∧
           (
            WrRow w60 { block := b2, off := (0 : Nat) } (0 : Nat) [Value.int IntKind.i64 n75, Value.slice p76 k77 k78, Value.int IntKind.i64 n79]) ∧
           LetW (setRow w60 { block := b2, off := (0 : Nat) } (0 : Nat) [Value.int IntKind.i64 n75, Value.slice p76 k77 k78, Value.int IntKind.i64 n79]) fun w80 =>
           ∃ n81 : Int,
           ∃ p82 : Option Addr,
           ∃ k83 : Nat,
           ∃ k84 : Nat,
           ∃ n85 : Int,
           (
            Row w80 { block := b2, off := (0 : Nat) } (0 : Nat) [Value.int IntKind.i64 n81, Value.slice p82 k83 k84, Value.int IntKind.i64 n85]) ∧
           R (Ending.returned (Value.tuple #[Value.agg #[Value.int IntKind.i64 n81, Value.slice p82 k83 k84, Value.int IntKind.i64 n85], Value.int IntKind.i64 (0 : Int)])) w80)))))
theorem rcget_ok (s1 : ByteArray) (w : World) (R : Ending → World → Prop) (h : rcget s1 w R) : Ca Try.prog 42 #[Value.string s1] w R :=
  Ca.of_fvc (c := bodyOf Try.f42) (by kernel_rfl) Try.func42 (by kernel_rfl) [] (Eq.mp (by kernel_rfl) h)

def rcsame (n1 : Int) (p2 : Option Addr) (k3 : Nat) (k4 : Nat) (n5 : Int) (n6 : Int) (p7 : Option Addr) (k8 : Nat) (k9 : Nat) (n10 : Int) (w : World) (R : Ending → World → Prop) : Prop :=
 LetA (Obj.cells #[Value.int IntKind.i64 n1, Value.slice p2 k3 k4, Value.int IntKind.i64 n5] (37 : Nat)) w fun b11 w12 =>
 LetA (Obj.cells #[Value.int IntKind.i64 n6, Value.slice p7 k8 k9, Value.int IntKind.i64 n10] (37 : Nat)) w12 fun b13 w14 =>
 ∃ n15 : Int,
 (
  w14.cell? { block := b11, off := (0 : Nat) } = some (Value.int IntKind.i64 n15)) ∧
 ∃ n16 : Int,
 (
  w14.cell? { block := b13, off := (0 : Nat) } = some (Value.int IntKind.i64 n16)) ∧
 Br (n15 != n16)
  (
   R (Ending.returned (Value.bool false)) w14)
  (
   ∃ n17 : Int,
   (
    w14.cell? { block := b11, off := (2 : Nat) } = some (Value.int IntKind.i64 n17)) ∧
   ∃ n18 : Int,
   (
    w14.cell? { block := b13, off := (2 : Nat) } = some (Value.int IntKind.i64 n18)) ∧
   Br (n17 != n18)
    (
     R (Ending.returned (Value.bool false)) w14)
    (
     ∃ p19 : Option Addr,
     ∃ k20 : Nat,
     ∃ k21 : Nat,
     (
      w14.cell? { block := b11, off := (1 : Nat) } = some (Value.slice p19 k20 k21)) ∧
     ∃ p22 : Option Addr,
     ∃ k23 : Nat,
     ∃ k24 : Nat,
     (
      w14.cell? { block := b13, off := (1 : Nat) } = some (Value.slice p22 k23 k24)) ∧
     Br ((↑k20 : Int) != (↑k23 : Int))
      (
       R (Ending.returned (Value.bool false)) w14)
      (
       ∃ I25 : Nat → List Value → World → Prop,
       (
        ∃ k26 : Nat,
        I25 k26 [Value.bool false, Value.int IntKind.i64 (0 : Int)] w14) ∧
       ∀ b27 : Bool,
       ∀ n28 : Int,
       ∀ k29 : Nat,
       ∀ w30 : World,
       (
        I25 k29 [Value.bool b27, Value.int IntKind.i64 n28] w30) →
       ∃ p31 : Option Addr,
       ∃ k32 : Nat,
       ∃ k33 : Nat,
       (
        w30.cell? { block := b11, off := (1 : Nat) } = some (Value.slice p31 k32 k33)) ∧
       Br (decide (n28 < (↑k32 : Int)))
        (
         ∃ p34 : Option Addr,
         ∃ k35 : Nat,
         ∃ k36 : Nat,
         (
          w30.cell? { block := b11, off := (1 : Nat) } = some (Value.slice p34 k35 k36)) ∧
         NilOk p34 fun a37 =>
         (
          (
           (0 : Int) ≤ n28) ∧
          n28 < (↑k35 : Int)) ∧
         ∃ n38 : Int,
         ∃ n39 : Int,
         (
          Row w30 (a37.add (n28.toNat * (2 : Nat))) (0 : Nat) [Value.int IntKind.i64 n38, Value.int IntKind.i64 n39]) ∧
         ∃ p40 : Option Addr,
         ∃ k41 : Nat,
         ∃ k42 : Nat,
         (
          w30.cell? { block := b13, off := (1 : Nat) } = some (Value.slice p40 k41 k42)) ∧
         NilOk p40 fun a43 =>
         (
          (
           (0 : Int) ≤ n28) ∧
          n28 < (↑k41 : Int)) ∧
         ∃ n44 : Int,
         ∃ n45 : Int,
         (
          Row w30 (a43.add (n28.toNat * (2 : Nat))) (0 : Nat) [Value.int IntKind.i64 n44, Value.int IntKind.i64 n45]) ∧
         Br (!(n38 == n44 && (n39 == n45 && true)))
          (
           R (Ending.returned (Value.bool false)) w30)
          (
           LetI (IntKind.i64.wrap (n28 + (1 : Int))) fun n46 =>
           ∃ k47 : Nat,
           (
            k47 < k29) ∧
           I25 k47 [Value.bool b27, Value.int IntKind.i64 n46] w30))
        (
         R (Ending.returned (Value.bool true)) w30))))
theorem rcsame_ok (n1 : Int) (p2 : Option Addr) (k3 : Nat) (k4 : Nat) (n5 : Int) (n6 : Int) (p7 : Option Addr) (k8 : Nat) (k9 : Nat) (n10 : Int) (w : World) (R : Ending → World → Prop) (h : rcsame n1 p2 k3 k4 n5 n6 p7 k8 k9 n10 w R) : Ca Try.prog 33 #[Value.agg #[Value.int IntKind.i64 n1, Value.slice p2 k3 k4, Value.int IntKind.i64 n5], Value.agg #[Value.int IntKind.i64 n6, Value.slice p7 k8 k9, Value.int IntKind.i64 n10]] w R :=
  Ca.of_fvc (c := bodyOf Try.f33) (by kernel_rfl) Try.func33 (by kernel_rfl) [] (Eq.mp (by kernel_rfl) h)

def cgreat (n1 : Int) (p2 : Option Addr) (k3 : Nat) (k4 : Nat) (n5 : Int) (w : World) (R : Ending → World → Prop) : Prop :=
 LetA (Obj.cells #[Value.int IntKind.i64 n1, Value.slice p2 k3 k4, Value.int IntKind.i64 n5] (37 : Nat)) w fun b6 w7 =>
 ∃ p8 : Option Addr,
 ∃ k9 : Nat,
 ∃ k10 : Nat,
 (
  w7.cell? { block := b6, off := (1 : Nat) } = some (Value.slice p8 k9 k10)) ∧
 R (Ending.returned (Value.bool (decide ((↑k9 : Int) > (12 : Int))))) w7
theorem cgreat_ok (n1 : Int) (p2 : Option Addr) (k3 : Nat) (k4 : Nat) (n5 : Int) (w : World) (R : Ending → World → Prop) (h : cgreat n1 p2 k3 k4 n5 w R) : Ca Try.prog 25 #[Value.agg #[Value.int IntKind.i64 n1, Value.slice p2 k3 k4, Value.int IntKind.i64 n5]] w R :=
  Ca.of_fvc (c := bodyOf Try.f25) (by kernel_rfl) Try.func25 (by kernel_rfl) [] (Eq.mp (by kernel_rfl) h)

def linked (w : World) (R : Ending → World → Prop) : Prop :=
 LetA (Obj.cells #[Value.int IntKind.i64 (2 : Int), Value.int IntKind.i64 (1 : Int), Value.int IntKind.i64 (0 : Int), Value.int IntKind.i64 (3 : Int)] (43 : Nat)) w fun b1 w2 =>
 LetA (Obj.cells #[Value.int IntKind.i64 (0 : Int), Value.slice none (0 : Nat) (0 : Nat), Value.int IntKind.i64 (0 : Int)] (37 : Nat)) w2 fun b3 w4 =>
 (
  WrRow w4 { block := b3, off := (0 : Nat) } (0 : Nat) [Value.int IntKind.i64 (3 : Int), Value.slice (some { block := b1, off := (0 : Nat) }) (2 : Nat) (2 : Nat), Value.int IntKind.i64 (-1 : Int)]) ∧
 LetW (setRow w4 { block := b3, off := (0 : Nat) } (0 : Nat) [Value.int IntKind.i64 (3 : Int), Value.slice (some { block := b1, off := (0 : Nat) }) (2 : Nat) (2 : Nat), Value.int IntKind.i64 (-1 : Int)]) fun w5 =>
 ∃ n6 : Int,
 ∃ p7 : Option Addr,
 ∃ k8 : Nat,
 ∃ k9 : Nat,
 ∃ n10 : Int,
 (
  Row w5 { block := b3, off := (0 : Nat) } (0 : Nat) [Value.int IntKind.i64 n6, Value.slice p7 k8 k9, Value.int IntKind.i64 n10]) ∧
 Ca Try.prog (27 : Nat) #[Value.agg #[Value.int IntKind.i64 n6, Value.slice p7 k8 k9, Value.int IntKind.i64 n10], Value.int IntKind.i64 (1 : Int)] w5 fun e11 w12 =>
 ∃ n13 : Int,
 ∃ p14 : Option Addr,
 ∃ k15 : Nat,
 ∃ k16 : Nat,
 ∃ n17 : Int,
 ∃ n18 : Int,
 (
  e11 = Ending.returned (Value.tuple #[Value.agg #[Value.int IntKind.i64 n13, Value.slice p14 k15 k16, Value.int IntKind.i64 n17], Value.int IntKind.i64 n18])) ∧
 LetA (Obj.cells #[Value.int IntKind.i64 (0 : Int), Value.slice none (0 : Nat) (0 : Nat), Value.int IntKind.i64 (0 : Int)] (37 : Nat)) w12 fun b19 w20 =>
 (
  WrRow w20 { block := b19, off := (0 : Nat) } (0 : Nat) [Value.int IntKind.i64 n13, Value.slice p14 k15 k16, Value.int IntKind.i64 n17]) ∧
 LetW (setRow w20 { block := b19, off := (0 : Nat) } (0 : Nat) [Value.int IntKind.i64 n13, Value.slice p14 k15 k16, Value.int IntKind.i64 n17]) fun w21 =>
 ∃ n22 : Int,
 ∃ p23 : Option Addr,
 ∃ k24 : Nat,
 ∃ k25 : Nat,
 ∃ n26 : Int,
 (
  Row w21 { block := b3, off := (0 : Nat) } (0 : Nat) [Value.int IntKind.i64 n22, Value.slice p23 k24 k25, Value.int IntKind.i64 n26]) ∧
 Ca Try.prog (29 : Nat) #[Value.agg #[Value.int IntKind.i64 n22, Value.slice p23 k24 k25, Value.int IntKind.i64 n26], Value.int IntKind.i64 (2 : Int)] w21 fun e27 w28 =>
 ∃ n29 : Int,
 ∃ p30 : Option Addr,
 ∃ k31 : Nat,
 ∃ k32 : Nat,
 ∃ n33 : Int,
 ∃ n34 : Int,
 (
  e27 = Ending.returned (Value.tuple #[Value.agg #[Value.int IntKind.i64 n29, Value.slice p30 k31 k32, Value.int IntKind.i64 n33], Value.int IntKind.i64 n34])) ∧
 LetA (Obj.cells #[Value.int IntKind.i64 (0 : Int), Value.slice none (0 : Nat) (0 : Nat), Value.int IntKind.i64 (0 : Int)] (37 : Nat)) w28 fun b35 w36 =>
 (
  WrRow w36 { block := b35, off := (0 : Nat) } (0 : Nat) [Value.int IntKind.i64 n29, Value.slice p30 k31 k32, Value.int IntKind.i64 n33]) ∧
 LetW (setRow w36 { block := b35, off := (0 : Nat) } (0 : Nat) [Value.int IntKind.i64 n29, Value.slice p30 k31 k32, Value.int IntKind.i64 n33]) fun w37 =>
 ∃ n38 : Int,
 ∃ p39 : Option Addr,
 ∃ k40 : Nat,
 ∃ k41 : Nat,
 ∃ n42 : Int,
 (
  Row w37 { block := b3, off := (0 : Nat) } (0 : Nat) [Value.int IntKind.i64 n38, Value.slice p39 k40 k41, Value.int IntKind.i64 n42]) ∧
 Ca Try.prog (31 : Nat) #[Value.agg #[Value.int IntKind.i64 n38, Value.slice p39 k40 k41, Value.int IntKind.i64 n42], Value.int IntKind.i64 (0 : Int)] w37 fun e43 w44 =>
 ∃ n45 : Int,
 ∃ p46 : Option Addr,
 ∃ k47 : Nat,
 ∃ k48 : Nat,
 ∃ n49 : Int,
 ∃ n50 : Int,
 (
  e43 = Ending.returned (Value.tuple #[Value.agg #[Value.int IntKind.i64 n45, Value.slice p46 k47 k48, Value.int IntKind.i64 n49], Value.int IntKind.i64 n50])) ∧
 LetA (Obj.cells #[Value.int IntKind.i64 (0 : Int), Value.slice none (0 : Nat) (0 : Nat), Value.int IntKind.i64 (0 : Int)] (37 : Nat)) w44 fun b51 w52 =>
 (
  WrRow w52 { block := b51, off := (0 : Nat) } (0 : Nat) [Value.int IntKind.i64 n45, Value.slice p46 k47 k48, Value.int IntKind.i64 n49]) ∧
 LetW (setRow w52 { block := b51, off := (0 : Nat) } (0 : Nat) [Value.int IntKind.i64 n45, Value.slice p46 k47 k48, Value.int IntKind.i64 n49]) fun w53 =>
 ∃ n54 : Int,
 ∃ p55 : Option Addr,
 ∃ k56 : Nat,
 ∃ k57 : Nat,
 ∃ n58 : Int,
 (
  Row w53 { block := b51, off := (0 : Nat) } (0 : Nat) [Value.int IntKind.i64 n54, Value.slice p55 k56 k57, Value.int IntKind.i64 n58]) ∧
 Ca Try.prog (31 : Nat) #[Value.agg #[Value.int IntKind.i64 n54, Value.slice p55 k56 k57, Value.int IntKind.i64 n58], Value.int IntKind.i64 (2 : Int)] w53 fun e59 w60 =>
 ∃ n61 : Int,
 ∃ p62 : Option Addr,
 ∃ k63 : Nat,
 ∃ k64 : Nat,
 ∃ n65 : Int,
 ∃ n66 : Int,
 (
  e59 = Ending.returned (Value.tuple #[Value.agg #[Value.int IntKind.i64 n61, Value.slice p62 k63 k64, Value.int IntKind.i64 n65], Value.int IntKind.i64 n66])) ∧
 LetA (Obj.cells #[Value.int IntKind.i64 (0 : Int), Value.slice none (0 : Nat) (0 : Nat), Value.int IntKind.i64 (0 : Int)] (37 : Nat)) w60 fun b67 w68 =>
 (
  WrRow w68 { block := b67, off := (0 : Nat) } (0 : Nat) [Value.int IntKind.i64 n61, Value.slice p62 k63 k64, Value.int IntKind.i64 n65]) ∧
 LetW (setRow w68 { block := b67, off := (0 : Nat) } (0 : Nat) [Value.int IntKind.i64 n61, Value.slice p62 k63 k64, Value.int IntKind.i64 n65]) fun w69 =>
 ∃ n70 : Int,
 ∃ p71 : Option Addr,
 ∃ k72 : Nat,
 ∃ k73 : Nat,
 ∃ n74 : Int,
 (
  Row w69 { block := b3, off := (0 : Nat) } (0 : Nat) [Value.int IntKind.i64 n70, Value.slice p71 k72 k73, Value.int IntKind.i64 n74]) ∧
 Ca Try.prog (35 : Nat) #[Value.agg #[Value.int IntKind.i64 n70, Value.slice p71 k72 k73, Value.int IntKind.i64 n74]] w69 fun e75 w76 =>
 ∃ n77 : Int,
 (
  e75 = Ending.returned (Value.int IntKind.i64 n77)) ∧
 Br (n77 == (2 : Int))
  (
   ∃ n78 : Int,
   ∃ p79 : Option Addr,
   ∃ k80 : Nat,
   ∃ k81 : Nat,
   ∃ n82 : Int,
   (
    Row w76 { block := b3, off := (0 : Nat) } (0 : Nat) [Value.int IntKind.i64 n78, Value.slice p79 k80 k81, Value.int IntKind.i64 n82]) ∧
   Ca Try.prog (38 : Nat) #[Value.agg #[Value.int IntKind.i64 n78, Value.slice p79 k80 k81, Value.int IntKind.i64 n82]] w76 fun e83 w84 =>
   ∃ n85 : Int,
   (
    e83 = Ending.returned (Value.int IntKind.i64 n85)) ∧
   Br (n85 == (0 : Int))
    (
     ∃ n86 : Int,
     ∃ p87 : Option Addr,
     ∃ k88 : Nat,
     ∃ k89 : Nat,
     ∃ n90 : Int,
     (
      Row w84 { block := b3, off := (0 : Nat) } (0 : Nat) [Value.int IntKind.i64 n86, Value.slice p87 k88 k89, Value.int IntKind.i64 n90]) ∧
     Ca Try.prog (36 : Nat) #[Value.agg #[Value.int IntKind.i64 n86, Value.slice p87 k88 k89, Value.int IntKind.i64 n90], Value.int IntKind.i64 (2 : Int)] w84 fun e91 w92 =>
     ∃ n93 : Int,
     (
      e91 = Ending.returned (Value.int IntKind.i64 n93)) ∧
     Br (n93 == (0 : Int))
      (
       ∃ n94 : Int,
       ∃ p95 : Option Addr,
       ∃ k96 : Nat,
       ∃ k97 : Nat,
       ∃ n98 : Int,
       (
        Row w92 { block := b3, off := (0 : Nat) } (0 : Nat) [Value.int IntKind.i64 n94, Value.slice p95 k96 k97, Value.int IntKind.i64 n98]) ∧
       Ca Try.prog (37 : Nat) #[Value.agg #[Value.int IntKind.i64 n94, Value.slice p95 k96 k97, Value.int IntKind.i64 n98], Value.int IntKind.i64 (2 : Int)] w92 fun e99 w100 =>
       ∃ n101 : Int,
       (
        e99 = Ending.returned (Value.int IntKind.i64 n101)) ∧
       Br (n101 == (-1 : Int))
        (
         Br (n18 == (0 : Int))
          (
           ∃ n102 : Int,
           (
            w100.cell? { block := b19, off := (0 : Nat) } = some (Value.int IntKind.i64 n102)) ∧
           Br (n102 == (4 : Int))
            (
             ∃ p103 : Option Addr,
             ∃ k104 : Nat,
             ∃ k105 : Nat,
             (
              w100.cell? { block := b19, off := (1 : Nat) } = some (Value.slice p103 k104 k105)) ∧
             Br ((↑k104 : Int) == (3 : Int))
              (
               ∃ p106 : Option Addr,
               ∃ k107 : Nat,
               ∃ k108 : Nat,
               (
                w100.cell? { block := b19, off := (1 : Nat) } = some (Value.slice p106 k107 k108)) ∧
               NilOk p106 fun a109 =>
               (
                (
                 (0 : Int) ≤ (2 : Int)) ∧
                (2 : Int) < (↑k107 : Int)) ∧
               ∃ n110 : Int,
               ∃ n111 : Int,
               (
                Row w100 (a109.add (4 : Nat)) (0 : Nat) [Value.int IntKind.i64 n110, Value.int IntKind.i64 n111]) ∧
               Br (n110 == (1 : Int) && (n111 == (4 : Int) && true))
                (
                 Br (n34 == (0 : Int))
                  (
                   ∃ n112 : Int,
                   (
                    w100.cell? { block := b35, off := (0 : Nat) } = some (Value.int IntKind.i64 n112)) ∧
                   Br (n112 == (4 : Int))
                    (
                     ∃ p113 : Option Addr,
                     ∃ k114 : Nat,
                     ∃ k115 : Nat,
                     (
                      w100.cell? { block := b35, off := (1 : Nat) } = some (Value.slice p113 k114 k115)) ∧
                     Br ((↑k114 : Int) == (1 : Int))
                      (
                       ∃ p116 : Option Addr,
                       ∃ k117 : Nat,
                       ∃ k118 : Nat,
                       (
                        w100.cell? { block := b35, off := (1 : Nat) } = some (Value.slice p116 k117 k118)) ∧
                       NilOk p116 fun a119 =>
                       (
                        (
                         (0 : Int) ≤ (0 : Int)) ∧
                        (0 : Int) < (↑k117 : Int)) ∧
                       ∃ n120 : Int,
                       ∃ n121 : Int,
                       (
                        Row w100 a119 (0 : Nat) [Value.int IntKind.i64 n120, Value.int IntKind.i64 n121]) ∧
                       Br (n120 == (0 : Int) && (n121 == (3 : Int) && true))
                        (
                         Br (n50 == (0 : Int))
                          (
                           ∃ n122 : Int,
                           (
                            w100.cell? { block := b51, off := (2 : Nat) } = some (Value.int IntKind.i64 n122)) ∧
                           Br (n122 == (0 : Int))
                            (
                             R (Ending.returned (Value.bool (n66 == (62 : Int)))) w100)
                            (
                             R (Ending.returned (Value.bool false)) w100))
                          (
                           R (Ending.returned (Value.bool false)) w100))
                        (
                         R (Ending.returned (Value.bool false)) w100))
                      (
                       R (Ending.returned (Value.bool false)) w100))
                    (
                     R (Ending.returned (Value.bool false)) w100))
                  (
                   R (Ending.returned (Value.bool false)) w100))
                (
                 R (Ending.returned (Value.bool false)) w100))
              (
               R (Ending.returned (Value.bool false)) w100))
            (
             R (Ending.returned (Value.bool false)) w100))
          (
           R (Ending.returned (Value.bool false)) w100))
        (
         R (Ending.returned (Value.bool false)) w100))
      (
       R (Ending.returned (Value.bool false)) w92))
    (
     R (Ending.returned (Value.bool false)) w84))
  (
   R (Ending.returned (Value.bool false)) w76)
theorem linked_ok (w : World) (R : Ending → World → Prop) (h : linked  w R) : Ca Try.prog 26 #[] w R :=
  Ca.of_fvc (c := bodyOf Try.f26) (by kernel_rfl) Try.func26 (by kernel_rfl) [] (Eq.mp (by kernel_rfl) h)

def lawCMove (n1 : Int) (p2 : Option Addr) (k3 : Nat) (k4 : Nat) (n5 : Int) (n6 : Int) (w : World) (R : Ending → World → Prop) : Prop :=
 LetA (Obj.cells #[Value.int IntKind.i64 n1, Value.slice p2 k3 k4, Value.int IntKind.i64 n5] (37 : Nat)) w fun b7 w8 =>
 ∃ n9 : Int,
 ∃ p10 : Option Addr,
 ∃ k11 : Nat,
 ∃ k12 : Nat,
 ∃ n13 : Int,
 (
  Row w8 { block := b7, off := (0 : Nat) } (0 : Nat) [Value.int IntKind.i64 n9, Value.slice p10 k11 k12, Value.int IntKind.i64 n13]) ∧
 Ca Try.prog (25 : Nat) #[Value.agg #[Value.int IntKind.i64 n9, Value.slice p10 k11 k12, Value.int IntKind.i64 n13]] w8 fun e14 w15 =>
 ∃ b16 : Bool,
 (
  e14 = Ending.returned (Value.bool b16)) ∧
 Br (b16)
  (
   Ca Try.prog (26 : Nat) #[] w15 fun e17 w18 =>
   ∃ b19 : Bool,
   (
    e17 = Ending.returned (Value.bool b19)) ∧
   R (Ending.returned (Value.bool b19)) w18)
  (
   ∃ n20 : Int,
   ∃ p21 : Option Addr,
   ∃ k22 : Nat,
   ∃ k23 : Nat,
   ∃ n24 : Int,
   (
    Row w15 { block := b7, off := (0 : Nat) } (0 : Nat) [Value.int IntKind.i64 n20, Value.slice p21 k22 k23, Value.int IntKind.i64 n24]) ∧
   LetA (Obj.cells #[Value.int IntKind.i64 (0 : Int), Value.slice none (0 : Nat) (0 : Nat), Value.int IntKind.i64 (0 : Int)] (37 : Nat)) w15 fun b25 w26 =>
   (
    WrRow w26 { block := b25, off := (0 : Nat) } (0 : Nat) [Value.int IntKind.i64 n20, Value.slice p21 k22 k23, Value.int IntKind.i64 n24]) ∧
   LetW (setRow w26 { block := b25, off := (0 : Nat) } (0 : Nat) [Value.int IntKind.i64 n20, Value.slice p21 k22 k23, Value.int IntKind.i64 n24]) fun w27 =>
   ∃ p28 : Option Addr,
   ∃ k29 : Nat,
   ∃ k30 : Nat,
   (
    w27.cell? { block := b7, off := (1 : Nat) } = some (Value.slice p28 k29 k30)) ∧
   RunsV Try.prog (Builtin.append_ #[(35 : Nat), (35 : Nat)] (35 : Nat) #[Value.slice none (0 : Nat) (0 : Nat), Value.slice p28 k29 k30]) w27 fun v31 w32 =>
   ∃ p33 : Option Addr,
   ∃ k34 : Nat,
   ∃ k35 : Nat,
   (
    v31 = Value.slice p33 k34 k35) ∧
   (
    Wr w32 { block := b25, off := (1 : Nat) }) ∧
   LetW (w32.setCell { block := b25, off := (1 : Nat) } (Value.slice p33 k34 k35)) fun w36 =>
   ∃ I37 : Nat → List Value → World → Prop,
   (
    ∃ k38 : Nat,
    I37 k38 [Value.bool false, Value.int IntKind.i64 (-1 : Int)] w36) ∧
   ∀ b39 : Bool,
   ∀ n40 : Int,
   ∀ k41 : Nat,
   ∀ w42 : World,
   (
    I37 k41 [Value.bool b39, Value.int IntKind.i64 n40] w42) →
   Br (decide (n40 < (8 : Int)))
    (
     Br (n40 == (7 : Int))
      (
       ∃ n43 : Int,
       ∃ p44 : Option Addr,
       ∃ k45 : Nat,
       ∃ k46 : Nat,
       ∃ n47 : Int,
       (
        Row w42 { block := b25, off := (0 : Nat) } (0 : Nat) [Value.int IntKind.i64 n43, Value.slice p44 k45 k46, Value.int IntKind.i64 n47]) ∧
       Ca Try.prog (27 : Nat) #[Value.agg #[Value.int IntKind.i64 n43, Value.slice p44 k45 k46, Value.int IntKind.i64 n47], Value.int IntKind.i64 n6] w42 fun e48 w49 =>
       ∃ n50 : Int,
       ∃ p51 : Option Addr,
       ∃ k52 : Nat,
       ∃ k53 : Nat,
       ∃ n54 : Int,
       ∃ n55 : Int,
       (
        e48 = Ending.returned (Value.tuple #[Value.agg #[Value.int IntKind.i64 n50, Value.slice p51 k52 k53, Value.int IntKind.i64 n54], Value.int IntKind.i64 n55])) ∧
       LetA (Obj.cells #[Value.int IntKind.i64 (0 : Int), Value.slice none (0 : Nat) (0 : Nat), Value.int IntKind.i64 (0 : Int)] (37 : Nat)) w49 fun b56 w57 =>
       (
        WrRow w57 { block := b56, off := (0 : Nat) } (0 : Nat) [Value.int IntKind.i64 n50, Value.slice p51 k52 k53, Value.int IntKind.i64 n54]) ∧
       LetW (setRow w57 { block := b56, off := (0 : Nat) } (0 : Nat) [Value.int IntKind.i64 n50, Value.slice p51 k52 k53, Value.int IntKind.i64 n54]) fun w58 =>
       ∃ n59 : Int,
       ∃ p60 : Option Addr,
       ∃ k61 : Nat,
       ∃ k62 : Nat,
       ∃ n63 : Int,
       (
        Row w58 { block := b7, off := (0 : Nat) } (0 : Nat) [Value.int IntKind.i64 n59, Value.slice p60 k61 k62, Value.int IntKind.i64 n63]) ∧
       Ca Try.prog (28 : Nat) #[Value.agg #[Value.int IntKind.i64 n59, Value.slice p60 k61 k62, Value.int IntKind.i64 n63], Value.int IntKind.i64 n6] w58 fun e64 w65 =>
       ∃ n66 : Int,
       ∃ p67 : Option Addr,
       ∃ k68 : Nat,
       ∃ k69 : Nat,
       ∃ n70 : Int,
       ∃ n71 : Int,
       (
        e64 = Ending.returned (Value.tuple #[Value.agg #[Value.int IntKind.i64 n66, Value.slice p67 k68 k69, Value.int IntKind.i64 n70], Value.int IntKind.i64 n71])) ∧
       LetA (Obj.cells #[Value.int IntKind.i64 (0 : Int), Value.slice none (0 : Nat) (0 : Nat), Value.int IntKind.i64 (0 : Int)] (37 : Nat)) w65 fun b72 w73 =>
       (
        WrRow w73 { block := b72, off := (0 : Nat) } (0 : Nat) [Value.int IntKind.i64 n66, Value.slice p67 k68 k69, Value.int IntKind.i64 n70]) ∧
       LetW (setRow w73 { block := b72, off := (0 : Nat) } (0 : Nat) [Value.int IntKind.i64 n66, Value.slice p67 k68 k69, Value.int IntKind.i64 n70]) fun w74 =>
       ∃ n75 : Int,
       ∃ p76 : Option Addr,
       ∃ k77 : Nat,
       ∃ k78 : Nat,
       ∃ n79 : Int,
       (
        Row w74 { block := b25, off := (0 : Nat) } (0 : Nat) [Value.int IntKind.i64 n75, Value.slice p76 k77 k78, Value.int IntKind.i64 n79]) ∧
       Ca Try.prog (29 : Nat) #[Value.agg #[Value.int IntKind.i64 n75, Value.slice p76 k77 k78, Value.int IntKind.i64 n79], Value.int IntKind.i64 n6] w74 fun e80 w81 =>
       ∃ n82 : Int,
       ∃ p83 : Option Addr,
       ∃ k84 : Nat,
       ∃ k85 : Nat,
       ∃ n86 : Int,
       ∃ n87 : Int,
       (
        e80 = Ending.returned (Value.tuple #[Value.agg #[Value.int IntKind.i64 n82, Value.slice p83 k84 k85, Value.int IntKind.i64 n86], Value.int IntKind.i64 n87])) ∧
       LetA (Obj.cells #[Value.int IntKind.i64 (0 : Int), Value.slice none (0 : Nat) (0 : Nat), Value.int IntKind.i64 (0 : Int)] (37 : Nat)) w81 fun b88 w89 =>
       (
        WrRow w89 { block := b88, off := (0 : Nat) } (0 : Nat) [Value.int IntKind.i64 n82, Value.slice p83 k84 k85, Value.int IntKind.i64 n86]) ∧
       LetW (setRow w89 { block := b88, off := (0 : Nat) } (0 : Nat) [Value.int IntKind.i64 n82, Value.slice p83 k84 k85, Value.int IntKind.i64 n86]) fun w90 =>
       ∃ n91 : Int,
       ∃ p92 : Option Addr,
       ∃ k93 : Nat,
       ∃ k94 : Nat,
       ∃ n95 : Int,
       (
        Row w90 { block := b7, off := (0 : Nat) } (0 : Nat) [Value.int IntKind.i64 n91, Value.slice p92 k93 k94, Value.int IntKind.i64 n95]) ∧
       Ca Try.prog (30 : Nat) #[Value.agg #[Value.int IntKind.i64 n91, Value.slice p92 k93 k94, Value.int IntKind.i64 n95], Value.int IntKind.i64 n6] w90 fun e96 w97 =>
       ∃ n98 : Int,
       ∃ p99 : Option Addr,
       ∃ k100 : Nat,
       ∃ k101 : Nat,
       ∃ n102 : Int,
       ∃ n103 : Int,
       (
        e96 = Ending.returned (Value.tuple #[Value.agg #[Value.int IntKind.i64 n98, Value.slice p99 k100 k101, Value.int IntKind.i64 n102], Value.int IntKind.i64 n103])) ∧
       LetA (Obj.cells #[Value.int IntKind.i64 (0 : Int), Value.slice none (0 : Nat) (0 : Nat), Value.int IntKind.i64 (0 : Int)] (37 : Nat)) w97 fun b104 w105 =>
       (
        WrRow w105 { block := b104, off := (0 : Nat) } (0 : Nat) [Value.int IntKind.i64 n98, Value.slice p99 k100 k101, Value.int IntKind.i64 n102]) ∧
       LetW (setRow w105 { block := b104, off := (0 : Nat) } (0 : Nat) [Value.int IntKind.i64 n98, Value.slice p99 k100 k101, Value.int IntKind.i64 n102]) fun w106 =>
       ∃ n107 : Int,
       ∃ p108 : Option Addr,
       ∃ k109 : Nat,
       ∃ k110 : Nat,
       ∃ n111 : Int,
       (
        Row w106 { block := b25, off := (0 : Nat) } (0 : Nat) [Value.int IntKind.i64 n107, Value.slice p108 k109 k110, Value.int IntKind.i64 n111]) ∧
       Ca Try.prog (31 : Nat) #[Value.agg #[Value.int IntKind.i64 n107, Value.slice p108 k109 k110, Value.int IntKind.i64 n111], Value.int IntKind.i64 n6] w106 fun e112 w113 =>
       ∃ n114 : Int,
       ∃ p115 : Option Addr,
       ∃ k116 : Nat,
       ∃ k117 : Nat,
       ∃ n118 : Int,
       ∃ n119 : Int,
       (
        e112 = Ending.returned (Value.tuple #[Value.agg #[Value.int IntKind.i64 n114, Value.slice p115 k116 k117, Value.int IntKind.i64 n118], Value.int IntKind.i64 n119])) ∧
       LetA (Obj.cells #[Value.int IntKind.i64 (0 : Int), Value.slice none (0 : Nat) (0 : Nat), Value.int IntKind.i64 (0 : Int)] (37 : Nat)) w113 fun b120 w121 =>
       (
        WrRow w121 { block := b120, off := (0 : Nat) } (0 : Nat) [Value.int IntKind.i64 n114, Value.slice p115 k116 k117, Value.int IntKind.i64 n118]) ∧
       LetW (setRow w121 { block := b120, off := (0 : Nat) } (0 : Nat) [Value.int IntKind.i64 n114, Value.slice p115 k116 k117, Value.int IntKind.i64 n118]) fun w122 =>
       ∃ n123 : Int,
       ∃ p124 : Option Addr,
       ∃ k125 : Nat,
       ∃ k126 : Nat,
       ∃ n127 : Int,
       (
        Row w122 { block := b7, off := (0 : Nat) } (0 : Nat) [Value.int IntKind.i64 n123, Value.slice p124 k125 k126, Value.int IntKind.i64 n127]) ∧
       Ca Try.prog (32 : Nat) #[Value.agg #[Value.int IntKind.i64 n123, Value.slice p124 k125 k126, Value.int IntKind.i64 n127], Value.int IntKind.i64 n6] w122 fun e128 w129 =>
       ∃ n130 : Int,
       ∃ p131 : Option Addr,
       ∃ k132 : Nat,
       ∃ k133 : Nat,
       ∃ n134 : Int,
       ∃ n135 : Int,
       (
        e128 = Ending.returned (Value.tuple #[Value.agg #[Value.int IntKind.i64 n130, Value.slice p131 k132 k133, Value.int IntKind.i64 n134], Value.int IntKind.i64 n135])) ∧
       LetA (Obj.cells #[Value.int IntKind.i64 (0 : Int), Value.slice none (0 : Nat) (0 : Nat), Value.int IntKind.i64 (0 : Int)] (37 : Nat)) w129 fun b136 w137 =>
       (
        WrRow w137 { block := b136, off := (0 : Nat) } (0 : Nat) [Value.int IntKind.i64 n130, Value.slice p131 k132 k133, Value.int IntKind.i64 n134]) ∧
       LetW (setRow w137 { block := b136, off := (0 : Nat) } (0 : Nat) [Value.int IntKind.i64 n130, Value.slice p131 k132 k133, Value.int IntKind.i64 n134]) fun w138 =>
       ∃ n139 : Int,
       ∃ p140 : Option Addr,
       ∃ k141 : Nat,
       ∃ k142 : Nat,
       ∃ n143 : Int,
       (
        Row w138 { block := b56, off := (0 : Nat) } (0 : Nat) [Value.int IntKind.i64 n139, Value.slice p140 k141 k142, Value.int IntKind.i64 n143]) ∧
       ∃ n144 : Int,
       ∃ p145 : Option Addr,
       ∃ k146 : Nat,
       ∃ k147 : Nat,
       ∃ n148 : Int,
       (
        Row w138 { block := b72, off := (0 : Nat) } (0 : Nat) [Value.int IntKind.i64 n144, Value.slice p145 k146 k147, Value.int IntKind.i64 n148]) ∧
       Ca Try.prog (33 : Nat) #[Value.agg #[Value.int IntKind.i64 n139, Value.slice p140 k141 k142, Value.int IntKind.i64 n143], Value.agg #[Value.int IntKind.i64 n144, Value.slice p145 k146 k147, Value.int IntKind.i64 n148]] w138 fun e149 w150 =>
       ∃ b151 : Bool,
       (
        e149 = Ending.returned (Value.bool b151)) ∧
       Br (!b151)
        (
         R (Ending.returned (Value.bool false)) w150)
        (
         Br (n55 != n71)
          (
           R (Ending.returned (Value.bool false)) w150)
          (
           ∃ n152 : Int,
           ∃ p153 : Option Addr,
           ∃ k154 : Nat,
           ∃ k155 : Nat,
           ∃ n156 : Int,
           (
            Row w150 { block := b88, off := (0 : Nat) } (0 : Nat) [Value.int IntKind.i64 n152, Value.slice p153 k154 k155, Value.int IntKind.i64 n156]) ∧
           ∃ n157 : Int,
           ∃ p158 : Option Addr,
           ∃ k159 : Nat,
           ∃ k160 : Nat,
           ∃ n161 : Int,
           (
            Row w150 { block := b104, off := (0 : Nat) } (0 : Nat) [Value.int IntKind.i64 n157, Value.slice p158 k159 k160, Value.int IntKind.i64 n161]) ∧
           Ca Try.prog (33 : Nat) #[Value.agg #[Value.int IntKind.i64 n152, Value.slice p153 k154 k155, Value.int IntKind.i64 n156], Value.agg #[Value.int IntKind.i64 n157, Value.slice p158 k159 k160, Value.int IntKind.i64 n161]] w150 fun e162 w163 =>
           ∃ b164 : Bool,
           (
            e162 = Ending.returned (Value.bool b164)) ∧
           Br (!b164)
            (
             R (Ending.returned (Value.bool false)) w163)
            (
             Br (n87 != n103)
              (
               R (Ending.returned (Value.bool false)) w163)
              (
               ∃ n165 : Int,
               ∃ p166 : Option Addr,
               ∃ k167 : Nat,
               ∃ k168 : Nat,
               ∃ n169 : Int,
               (
                Row w163 { block := b120, off := (0 : Nat) } (0 : Nat) [Value.int IntKind.i64 n165, Value.slice p166 k167 k168, Value.int IntKind.i64 n169]) ∧
               ∃ n170 : Int,
               ∃ p171 : Option Addr,
               ∃ k172 : Nat,
               ∃ k173 : Nat,
               ∃ n174 : Int,
               (
                Row w163 { block := b136, off := (0 : Nat) } (0 : Nat) [Value.int IntKind.i64 n170, Value.slice p171 k172 k173, Value.int IntKind.i64 n174]) ∧
               Ca Try.prog (33 : Nat) #[Value.agg #[Value.int IntKind.i64 n165, Value.slice p166 k167 k168, Value.int IntKind.i64 n169], Value.agg #[Value.int IntKind.i64 n170, Value.slice p171 k172 k173, Value.int IntKind.i64 n174]] w163 fun e175 w176 =>
               ∃ b177 : Bool,
               (
                e175 = Ending.returned (Value.bool b177)) ∧
               Br (!b177)
                (
                 R (Ending.returned (Value.bool false)) w176)
                (
                 Br (n119 != n135)
                  (
                   R (Ending.returned (Value.bool false)) w176)
                  (
                   ∃ I178 : Nat → List Value → World → Prop,
                   (
                    ∃ k179 : Nat,
                    I178 k179 [Value.int IntKind.i64 (0 : Int)] w176) ∧
                   ∀ n180 : Int,
                   ∀ k181 : Nat,
                   ∀ w182 : World,
                   (
                    I178 k181 [Value.int IntKind.i64 n180] w182) →
                   ∃ p183 : Option Addr,
                   ∃ k184 : Nat,
                   ∃ k185 : Nat,
                   (
                    w182.cell? { block := b120, off := (1 : Nat) } = some (Value.slice p183 k184 k185)) ∧
                   Br (decide (n180 < (↑k184 : Int)))
                    (
                     ∃ p186 : Option Addr,
                     ∃ k187 : Nat,
                     ∃ k188 : Nat,
                     (
                      w182.cell? { block := b120, off := (1 : Nat) } = some (Value.slice p186 k187 k188)) ∧
                     NilOk p186 fun a189 =>
                     (
                      (
                       (0 : Int) ≤ n180) ∧
                      n180 < (↑k187 : Int)) ∧
                     (
                      WrRow w182 (a189.add (n180.toNat * (2 : Nat))) (0 : Nat) [Value.int IntKind.i64 (99 : Int), Value.int IntKind.i64 (0 : Int)]) ∧
                     LetW (setRow w182 (a189.add (n180.toNat * (2 : Nat))) (0 : Nat) [Value.int IntKind.i64 (99 : Int), Value.int IntKind.i64 (0 : Int)]) fun w190 =>
                     LetI (IntKind.i64.wrap (n180 + (1 : Int))) fun n191 =>
                     ∃ k192 : Nat,
                     (
                      k192 < k181) ∧
                     I178 k192 [Value.int IntKind.i64 n191] w190)
                    (
                     ∃ n193 : Int,
                     ∃ p194 : Option Addr,
                     ∃ k195 : Nat,
                     ∃ k196 : Nat,
                     ∃ n197 : Int,
                     (
                      Row w182 { block := b25, off := (0 : Nat) } (0 : Nat) [Value.int IntKind.i64 n193, Value.slice p194 k195 k196, Value.int IntKind.i64 n197]) ∧
                     ∃ n198 : Int,
                     ∃ p199 : Option Addr,
                     ∃ k200 : Nat,
                     ∃ k201 : Nat,
                     ∃ n202 : Int,
                     (
                      Row w182 { block := b7, off := (0 : Nat) } (0 : Nat) [Value.int IntKind.i64 n198, Value.slice p199 k200 k201, Value.int IntKind.i64 n202]) ∧
                     Ca Try.prog (33 : Nat) #[Value.agg #[Value.int IntKind.i64 n193, Value.slice p194 k195 k196, Value.int IntKind.i64 n197], Value.agg #[Value.int IntKind.i64 n198, Value.slice p199 k200 k201, Value.int IntKind.i64 n202]] w182 fun e203 w204 =>
                     ∃ b205 : Bool,
                     (
                      e203 = Ending.returned (Value.bool b205)) ∧
                     Br (!b205)
                      (
                       R (Ending.returned (Value.bool false)) w204)
                      (
                       LetI (IntKind.i64.wrap (n40 + (1 : Int))) fun n206 =>
                       ∃ k207 : Nat,
                       (
                        k207 < k41) ∧
                       I37 k207 [Value.bool b39, Value.int IntKind.i64 n206] w204)))))))))
      (
       ∃ n208 : Int,
       ∃ p209 : Option Addr,
       ∃ k210 : Nat,
       ∃ k211 : Nat,
       ∃ n212 : Int,
       (
        Row w42 { block := b25, off := (0 : Nat) } (0 : Nat) [Value.int IntKind.i64 n208, Value.slice p209 k210 k211, Value.int IntKind.i64 n212]) ∧
       Ca Try.prog (27 : Nat) #[Value.agg #[Value.int IntKind.i64 n208, Value.slice p209 k210 k211, Value.int IntKind.i64 n212], Value.int IntKind.i64 n40] w42 fun e213 w214 =>
       ∃ n215 : Int,
       ∃ p216 : Option Addr,
       ∃ k217 : Nat,
       ∃ k218 : Nat,
       ∃ n219 : Int,
       ∃ n220 : Int,
       (
        e213 = Ending.returned (Value.tuple #[Value.agg #[Value.int IntKind.i64 n215, Value.slice p216 k217 k218, Value.int IntKind.i64 n219], Value.int IntKind.i64 n220])) ∧
       LetA (Obj.cells #[Value.int IntKind.i64 (0 : Int), Value.slice none (0 : Nat) (0 : Nat), Value.int IntKind.i64 (0 : Int)] (37 : Nat)) w214 fun b221 w222 =>
       (
        WrRow w222 { block := b221, off := (0 : Nat) } (0 : Nat) [Value.int IntKind.i64 n215, Value.slice p216 k217 k218, Value.int IntKind.i64 n219]) ∧
       LetW (setRow w222 { block := b221, off := (0 : Nat) } (0 : Nat) [Value.int IntKind.i64 n215, Value.slice p216 k217 k218, Value.int IntKind.i64 n219]) fun w223 =>
       ∃ n224 : Int,
       ∃ p225 : Option Addr,
       ∃ k226 : Nat,
       ∃ k227 : Nat,
       ∃ n228 : Int,
       (
        Row w223 { block := b7, off := (0 : Nat) } (0 : Nat) [Value.int IntKind.i64 n224, Value.slice p225 k226 k227, Value.int IntKind.i64 n228]) ∧
       Ca Try.prog (28 : Nat) #[Value.agg #[Value.int IntKind.i64 n224, Value.slice p225 k226 k227, Value.int IntKind.i64 n228], Value.int IntKind.i64 n40] w223 fun e229 w230 =>
       ∃ n231 : Int,
       ∃ p232 : Option Addr,
       ∃ k233 : Nat,
       ∃ k234 : Nat,
       ∃ n235 : Int,
       ∃ n236 : Int,
       (
        e229 = Ending.returned (Value.tuple #[Value.agg #[Value.int IntKind.i64 n231, Value.slice p232 k233 k234, Value.int IntKind.i64 n235], Value.int IntKind.i64 n236])) ∧
       LetA (Obj.cells #[Value.int IntKind.i64 (0 : Int), Value.slice none (0 : Nat) (0 : Nat), Value.int IntKind.i64 (0 : Int)] (37 : Nat)) w230 fun b237 w238 =>
       (
        WrRow w238 { block := b237, off := (0 : Nat) } (0 : Nat) [Value.int IntKind.i64 n231, Value.slice p232 k233 k234, Value.int IntKind.i64 n235]) ∧
       LetW (setRow w238 { block := b237, off := (0 : Nat) } (0 : Nat) [Value.int IntKind.i64 n231, Value.slice p232 k233 k234, Value.int IntKind.i64 n235]) fun w239 =>
       ∃ n240 : Int,
       ∃ p241 : Option Addr,
       ∃ k242 : Nat,
       ∃ k243 : Nat,
       ∃ n244 : Int,
       (
        Row w239 { block := b25, off := (0 : Nat) } (0 : Nat) [Value.int IntKind.i64 n240, Value.slice p241 k242 k243, Value.int IntKind.i64 n244]) ∧
       Ca Try.prog (29 : Nat) #[Value.agg #[Value.int IntKind.i64 n240, Value.slice p241 k242 k243, Value.int IntKind.i64 n244], Value.int IntKind.i64 n40] w239 fun e245 w246 =>
       ∃ n247 : Int,
       ∃ p248 : Option Addr,
       ∃ k249 : Nat,
       ∃ k250 : Nat,
       ∃ n251 : Int,
       ∃ n252 : Int,
       (
        e245 = Ending.returned (Value.tuple #[Value.agg #[Value.int IntKind.i64 n247, Value.slice p248 k249 k250, Value.int IntKind.i64 n251], Value.int IntKind.i64 n252])) ∧
       LetA (Obj.cells #[Value.int IntKind.i64 (0 : Int), Value.slice none (0 : Nat) (0 : Nat), Value.int IntKind.i64 (0 : Int)] (37 : Nat)) w246 fun b253 w254 =>
       (
        WrRow w254 { block := b253, off := (0 : Nat) } (0 : Nat) [Value.int IntKind.i64 n247, Value.slice p248 k249 k250, Value.int IntKind.i64 n251]) ∧
       LetW (setRow w254 { block := b253, off := (0 : Nat) } (0 : Nat) [Value.int IntKind.i64 n247, Value.slice p248 k249 k250, Value.int IntKind.i64 n251]) fun w255 =>
       ∃ n256 : Int,
       ∃ p257 : Option Addr,
       ∃ k258 : Nat,
       ∃ k259 : Nat,
       ∃ n260 : Int,
       (
        Row w255 { block := b7, off := (0 : Nat) } (0 : Nat) [Value.int IntKind.i64 n256, Value.slice p257 k258 k259, Value.int IntKind.i64 n260]) ∧
       Ca Try.prog (30 : Nat) #[Value.agg #[Value.int IntKind.i64 n256, Value.slice p257 k258 k259, Value.int IntKind.i64 n260], Value.int IntKind.i64 n40] w255 fun e261 w262 =>
       ∃ n263 : Int,
       ∃ p264 : Option Addr,
       ∃ k265 : Nat,
       ∃ k266 : Nat,
       ∃ n267 : Int,
       ∃ n268 : Int,
       (
        e261 = Ending.returned (Value.tuple #[Value.agg #[Value.int IntKind.i64 n263, Value.slice p264 k265 k266, Value.int IntKind.i64 n267], Value.int IntKind.i64 n268])) ∧
       LetA (Obj.cells #[Value.int IntKind.i64 (0 : Int), Value.slice none (0 : Nat) (0 : Nat), Value.int IntKind.i64 (0 : Int)] (37 : Nat)) w262 fun b269 w270 =>
       (
        WrRow w270 { block := b269, off := (0 : Nat) } (0 : Nat) [Value.int IntKind.i64 n263, Value.slice p264 k265 k266, Value.int IntKind.i64 n267]) ∧
       LetW (setRow w270 { block := b269, off := (0 : Nat) } (0 : Nat) [Value.int IntKind.i64 n263, Value.slice p264 k265 k266, Value.int IntKind.i64 n267]) fun w271 =>
       ∃ n272 : Int,
       ∃ p273 : Option Addr,
       ∃ k274 : Nat,
       ∃ k275 : Nat,
       ∃ n276 : Int,
       (
        Row w271 { block := b25, off := (0 : Nat) } (0 : Nat) [Value.int IntKind.i64 n272, Value.slice p273 k274 k275, Value.int IntKind.i64 n276]) ∧
       Ca Try.prog (31 : Nat) #[Value.agg #[Value.int IntKind.i64 n272, Value.slice p273 k274 k275, Value.int IntKind.i64 n276], Value.int IntKind.i64 n40] w271 fun e277 w278 =>
       ∃ n279 : Int,
       ∃ p280 : Option Addr,
       ∃ k281 : Nat,
       ∃ k282 : Nat,
       ∃ n283 : Int,
       ∃ n284 : Int,
       (
        e277 = Ending.returned (Value.tuple #[Value.agg #[Value.int IntKind.i64 n279, Value.slice p280 k281 k282, Value.int IntKind.i64 n283], Value.int IntKind.i64 n284])) ∧
       LetA (Obj.cells #[Value.int IntKind.i64 (0 : Int), Value.slice none (0 : Nat) (0 : Nat), Value.int IntKind.i64 (0 : Int)] (37 : Nat)) w278 fun b285 w286 =>
       (
        WrRow w286 { block := b285, off := (0 : Nat) } (0 : Nat) [Value.int IntKind.i64 n279, Value.slice p280 k281 k282, Value.int IntKind.i64 n283]) ∧
       LetW (setRow w286 { block := b285, off := (0 : Nat) } (0 : Nat) [Value.int IntKind.i64 n279, Value.slice p280 k281 k282, Value.int IntKind.i64 n283]) fun w287 =>
       ∃ n288 : Int,
       ∃ p289 : Option Addr,
       ∃ k290 : Nat,
       ∃ k291 : Nat,
       ∃ n292 : Int,
       (
        Row w287 { block := b7, off := (0 : Nat) } (0 : Nat) [Value.int IntKind.i64 n288, Value.slice p289 k290 k291, Value.int IntKind.i64 n292]) ∧
       Ca Try.prog (32 : Nat) #[Value.agg #[Value.int IntKind.i64 n288, Value.slice p289 k290 k291, Value.int IntKind.i64 n292], Value.int IntKind.i64 n40] w287 fun e293 w294 =>
       ∃ n295 : Int,
       ∃ p296 : Option Addr,
       ∃ k297 : Nat,
       ∃ k298 : Nat,
       ∃ n299 : Int,
       ∃ n300 : Int,
       (
        e293 = Ending.returned (Value.tuple #[Value.agg #[Value.int IntKind.i64 n295, Value.slice p296 k297 k298, Value.int IntKind.i64 n299], Value.int IntKind.i64 n300])) ∧
       LetA (Obj.cells #[Value.int IntKind.i64 (0 : Int), Value.slice none (0 : Nat) (0 : Nat), Value.int IntKind.i64 (0 : Int)] (37 : Nat)) w294 fun b301 w302 =>
       (
        WrRow w302 { block := b301, off := (0 : Nat) } (0 : Nat) [Value.int IntKind.i64 n295, Value.slice p296 k297 k298, Value.int IntKind.i64 n299]) ∧
       LetW (setRow w302 { block := b301, off := (0 : Nat) } (0 : Nat) [Value.int IntKind.i64 n295, Value.slice p296 k297 k298, Value.int IntKind.i64 n299]) fun w303 =>
       ∃ n304 : Int,
       ∃ p305 : Option Addr,
       ∃ k306 : Nat,
       ∃ k307 : Nat,
       ∃ n308 : Int,
       (
        Row w303 { block := b221, off := (0 : Nat) } (0 : Nat) [Value.int IntKind.i64 n304, Value.slice p305 k306 k307, Value.int IntKind.i64 n308]) ∧
       ∃ n309 : Int,
       ∃ p310 : Option Addr,
       ∃ k311 : Nat,
       ∃ k312 : Nat,
       ∃ n313 : Int,
       (
        Row w303 { block := b237, off := (0 : Nat) } (0 : Nat) [Value.int IntKind.i64 n309, Value.slice p310 k311 k312, Value.int IntKind.i64 n313]) ∧
       Ca Try.prog (33 : Nat) #[Value.agg #[Value.int IntKind.i64 n304, Value.slice p305 k306 k307, Value.int IntKind.i64 n308], Value.agg #[Value.int IntKind.i64 n309, Value.slice p310 k311 k312, Value.int IntKind.i64 n313]] w303 fun e314 w315 =>
       ∃ b316 : Bool,
       (
        e314 = Ending.returned (Value.bool b316)) ∧
       Br (!b316)
        (
         R (Ending.returned (Value.bool false)) w315)
        (
         Br (n220 != n236)
          (
           R (Ending.returned (Value.bool false)) w315)
          (
           ∃ n317 : Int,
           ∃ p318 : Option Addr,
           ∃ k319 : Nat,
           ∃ k320 : Nat,
           ∃ n321 : Int,
           (
            Row w315 { block := b253, off := (0 : Nat) } (0 : Nat) [Value.int IntKind.i64 n317, Value.slice p318 k319 k320, Value.int IntKind.i64 n321]) ∧
           ∃ n322 : Int,
           ∃ p323 : Option Addr,
           ∃ k324 : Nat,
           ∃ k325 : Nat,
           ∃ n326 : Int,
           (
            Row w315 { block := b269, off := (0 : Nat) } (0 : Nat) [Value.int IntKind.i64 n322, Value.slice p323 k324 k325, Value.int IntKind.i64 n326]) ∧
           Ca Try.prog (33 : Nat) #[Value.agg #[Value.int IntKind.i64 n317, Value.slice p318 k319 k320, Value.int IntKind.i64 n321], Value.agg #[Value.int IntKind.i64 n322, Value.slice p323 k324 k325, Value.int IntKind.i64 n326]] w315 fun e327 w328 =>
           ∃ b329 : Bool,
           (
            e327 = Ending.returned (Value.bool b329)) ∧
           Br (!b329)
            (
             R (Ending.returned (Value.bool false)) w328)
            (
             Br (n252 != n268)
              (
               R (Ending.returned (Value.bool false)) w328)
              (
               ∃ n330 : Int,
               ∃ p331 : Option Addr,
               ∃ k332 : Nat,
               ∃ k333 : Nat,
               ∃ n334 : Int,
               (
                Row w328 { block := b285, off := (0 : Nat) } (0 : Nat) [Value.int IntKind.i64 n330, Value.slice p331 k332 k333, Value.int IntKind.i64 n334]) ∧
               ∃ n335 : Int,
               ∃ p336 : Option Addr,
               ∃ k337 : Nat,
               ∃ k338 : Nat,
               ∃ n339 : Int,
               (
                Row w328 { block := b301, off := (0 : Nat) } (0 : Nat) [Value.int IntKind.i64 n335, Value.slice p336 k337 k338, Value.int IntKind.i64 n339]) ∧
               Ca Try.prog (33 : Nat) #[Value.agg #[Value.int IntKind.i64 n330, Value.slice p331 k332 k333, Value.int IntKind.i64 n334], Value.agg #[Value.int IntKind.i64 n335, Value.slice p336 k337 k338, Value.int IntKind.i64 n339]] w328 fun e340 w341 =>
               ∃ b342 : Bool,
               (
                e340 = Ending.returned (Value.bool b342)) ∧
               Br (!b342)
                (
                 R (Ending.returned (Value.bool false)) w341)
                (
                 Br (n284 != n300)
                  (
                   R (Ending.returned (Value.bool false)) w341)
                  (
                   ∃ I343 : Nat → List Value → World → Prop,
                   (
                    ∃ k344 : Nat,
                    I343 k344 [Value.int IntKind.i64 (0 : Int)] w341) ∧
                   ∀ n345 : Int,
                   ∀ k346 : Nat,
                   ∀ w347 : World,
                   (
                    I343 k346 [Value.int IntKind.i64 n345] w347) →
                   ∃ p348 : Option Addr,
                   ∃ k349 : Nat,
                   ∃ k350 : Nat,
                   (
                    w347.cell? { block := b285, off := (1 : Nat) } = some (Value.slice p348 k349 k350)) ∧
                   Br (decide (n345 < (↑k349 : Int)))
                    (
                     ∃ p351 : Option Addr,
                     ∃ k352 : Nat,
                     ∃ k353 : Nat,
                     (
                      w347.cell? { block := b285, off := (1 : Nat) } = some (Value.slice p351 k352 k353)) ∧
                     NilOk p351 fun a354 =>
                     (
                      (
                       (0 : Int) ≤ n345) ∧
                      n345 < (↑k352 : Int)) ∧
                     (
                      WrRow w347 (a354.add (n345.toNat * (2 : Nat))) (0 : Nat) [Value.int IntKind.i64 (99 : Int), Value.int IntKind.i64 (0 : Int)]) ∧
                     LetW (setRow w347 (a354.add (n345.toNat * (2 : Nat))) (0 : Nat) [Value.int IntKind.i64 (99 : Int), Value.int IntKind.i64 (0 : Int)]) fun w355 =>
                     LetI (IntKind.i64.wrap (n345 + (1 : Int))) fun n356 =>
                     ∃ k357 : Nat,
                     (
                      k357 < k346) ∧
                     I343 k357 [Value.int IntKind.i64 n356] w355)
                    (
                     ∃ n358 : Int,
                     ∃ p359 : Option Addr,
                     ∃ k360 : Nat,
                     ∃ k361 : Nat,
                     ∃ n362 : Int,
                     (
                      Row w347 { block := b25, off := (0 : Nat) } (0 : Nat) [Value.int IntKind.i64 n358, Value.slice p359 k360 k361, Value.int IntKind.i64 n362]) ∧
                     ∃ n363 : Int,
                     ∃ p364 : Option Addr,
                     ∃ k365 : Nat,
                     ∃ k366 : Nat,
                     ∃ n367 : Int,
                     (
                      Row w347 { block := b7, off := (0 : Nat) } (0 : Nat) [Value.int IntKind.i64 n363, Value.slice p364 k365 k366, Value.int IntKind.i64 n367]) ∧
                     Ca Try.prog (33 : Nat) #[Value.agg #[Value.int IntKind.i64 n358, Value.slice p359 k360 k361, Value.int IntKind.i64 n362], Value.agg #[Value.int IntKind.i64 n363, Value.slice p364 k365 k366, Value.int IntKind.i64 n367]] w347 fun e368 w369 =>
                     ∃ b370 : Bool,
                     (
                      e368 = Ending.returned (Value.bool b370)) ∧
                     Br (!b370)
                      (
                       R (Ending.returned (Value.bool false)) w369)
                      (
                       LetI (IntKind.i64.wrap (n40 + (1 : Int))) fun n371 =>
                       ∃ k372 : Nat,
                       (
                        k372 < k41) ∧
                       I37 k372 [Value.bool b39, Value.int IntKind.i64 n371] w369))))))))))
    (
     Ca Try.prog (26 : Nat) #[] w42 fun e373 w374 =>
     ∃ b375 : Bool,
     (
      e373 = Ending.returned (Value.bool b375)) ∧
     R (Ending.returned (Value.bool b375)) w374))
theorem lawCMove_ok (n1 : Int) (p2 : Option Addr) (k3 : Nat) (k4 : Nat) (n5 : Int) (n6 : Int) (w : World) (R : Ending → World → Prop) (h : lawCMove n1 p2 k3 k4 n5 n6 w R) : Ca Try.prog 7 #[Value.agg #[Value.int IntKind.i64 n1, Value.slice p2 k3 k4, Value.int IntKind.i64 n5], Value.int IntKind.i64 n6] w R :=
  Ca.of_fvc (c := bodyOf Try.f7) (by kernel_rfl) Try.func7 (by kernel_rfl) [] (Eq.mp (by kernel_rfl) h)

def lawCEnds (n1 : Int) (p2 : Option Addr) (k3 : Nat) (k4 : Nat) (n5 : Int) (n6 : Int) (w : World) (R : Ending → World → Prop) : Prop :=
 LetA (Obj.cells #[Value.int IntKind.i64 n1, Value.slice p2 k3 k4, Value.int IntKind.i64 n5] (37 : Nat)) w fun b7 w8 =>
 ∃ n9 : Int,
 ∃ p10 : Option Addr,
 ∃ k11 : Nat,
 ∃ k12 : Nat,
 ∃ n13 : Int,
 (
  Row w8 { block := b7, off := (0 : Nat) } (0 : Nat) [Value.int IntKind.i64 n9, Value.slice p10 k11 k12, Value.int IntKind.i64 n13]) ∧
 Ca Try.prog (25 : Nat) #[Value.agg #[Value.int IntKind.i64 n9, Value.slice p10 k11 k12, Value.int IntKind.i64 n13]] w8 fun e14 w15 =>
 ∃ b16 : Bool,
 (
  e14 = Ending.returned (Value.bool b16)) ∧
 Br (b16)
  (
   Ca Try.prog (26 : Nat) #[] w15 fun e17 w18 =>
   ∃ b19 : Bool,
   (
    e17 = Ending.returned (Value.bool b19)) ∧
   R (Ending.returned (Value.bool b19)) w18)
  (
   ∃ n20 : Int,
   ∃ p21 : Option Addr,
   ∃ k22 : Nat,
   ∃ k23 : Nat,
   ∃ n24 : Int,
   (
    Row w15 { block := b7, off := (0 : Nat) } (0 : Nat) [Value.int IntKind.i64 n20, Value.slice p21 k22 k23, Value.int IntKind.i64 n24]) ∧
   Ca Try.prog (34 : Nat) #[Value.agg #[Value.int IntKind.i64 n20, Value.slice p21 k22 k23, Value.int IntKind.i64 n24]] w15 fun e25 w26 =>
   ∃ n27 : Int,
   (
    e25 = Ending.returned (Value.int IntKind.i64 n27)) ∧
   Br (n27 != (0 : Int))
    (
     Ca Try.prog (26 : Nat) #[] w26 fun e28 w29 =>
     ∃ b30 : Bool,
     (
      e28 = Ending.returned (Value.bool b30)) ∧
     R (Ending.returned (Value.bool b30)) w29)
    (
     ∃ n31 : Int,
     ∃ p32 : Option Addr,
     ∃ k33 : Nat,
     ∃ k34 : Nat,
     ∃ n35 : Int,
     (
      Row w26 { block := b7, off := (0 : Nat) } (0 : Nat) [Value.int IntKind.i64 n31, Value.slice p32 k33 k34, Value.int IntKind.i64 n35]) ∧
     Ca Try.prog (35 : Nat) #[Value.agg #[Value.int IntKind.i64 n31, Value.slice p32 k33 k34, Value.int IntKind.i64 n35]] w26 fun e36 w37 =>
     ∃ n38 : Int,
     (
      e36 = Ending.returned (Value.int IntKind.i64 n38)) ∧
     ∃ I39 : Nat → List Value → World → Prop,
     (
      ∃ k40 : Nat,
      I39 k40 [Value.bool false, Value.int IntKind.i64 (0 : Int), Value.int IntKind.i64 (-1 : Int), Value.int IntKind.i64 n38] w37) ∧
     ∀ b41 : Bool,
     ∀ n42 : Int,
     ∀ n43 : Int,
     ∀ n44 : Int,
     ∀ k45 : Nat,
     ∀ w46 : World,
     (
      I39 k45 [Value.bool b41, Value.int IntKind.i64 n42, Value.int IntKind.i64 n43, Value.int IntKind.i64 n44] w46) →
     Br (decide (n44 ≥ (0 : Int)))
      (
       ∃ p47 : Option Addr,
       ∃ k48 : Nat,
       ∃ k49 : Nat,
       (
        w46.cell? { block := b7, off := (1 : Nat) } = some (Value.slice p47 k48 k49)) ∧
       Br (decide (n42 ≤ (↑k48 : Int)))
        (
         ∃ n50 : Int,
         ∃ p51 : Option Addr,
         ∃ k52 : Nat,
         ∃ k53 : Nat,
         ∃ n54 : Int,
         (
          Row w46 { block := b7, off := (0 : Nat) } (0 : Nat) [Value.int IntKind.i64 n50, Value.slice p51 k52 k53, Value.int IntKind.i64 n54]) ∧
         Ca Try.prog (37 : Nat) #[Value.agg #[Value.int IntKind.i64 n50, Value.slice p51 k52 k53, Value.int IntKind.i64 n54], Value.int IntKind.i64 n44] w46 fun e55 w56 =>
         ∃ n57 : Int,
         (
          e55 = Ending.returned (Value.int IntKind.i64 n57)) ∧
         Br (n57 != n43)
          (
           R (Ending.returned (Value.bool false)) w56)
          (
           LetI (IntKind.i64.wrap (n42 + (1 : Int))) fun n58 =>
           ∃ n59 : Int,
           ∃ p60 : Option Addr,
           ∃ k61 : Nat,
           ∃ k62 : Nat,
           ∃ n63 : Int,
           (
            Row w56 { block := b7, off := (0 : Nat) } (0 : Nat) [Value.int IntKind.i64 n59, Value.slice p60 k61 k62, Value.int IntKind.i64 n63]) ∧
           Ca Try.prog (36 : Nat) #[Value.agg #[Value.int IntKind.i64 n59, Value.slice p60 k61 k62, Value.int IntKind.i64 n63], Value.int IntKind.i64 n44] w56 fun e64 w65 =>
           ∃ n66 : Int,
           (
            e64 = Ending.returned (Value.int IntKind.i64 n66)) ∧
           ∃ k67 : Nat,
           (
            k67 < k45) ∧
           I39 k67 [Value.bool b41, Value.int IntKind.i64 n58, Value.int IntKind.i64 n44, Value.int IntKind.i64 n66] w65))
        (
         ∃ p68 : Option Addr,
         ∃ k69 : Nat,
         ∃ k70 : Nat,
         (
          w46.cell? { block := b7, off := (1 : Nat) } = some (Value.slice p68 k69 k70)) ∧
         Br (n42 != (↑k69 : Int))
          (
           R (Ending.returned (Value.bool false)) w46)
          (
           ∃ n71 : Int,
           ∃ p72 : Option Addr,
           ∃ k73 : Nat,
           ∃ k74 : Nat,
           ∃ n75 : Int,
           (
            Row w46 { block := b7, off := (0 : Nat) } (0 : Nat) [Value.int IntKind.i64 n71, Value.slice p72 k73 k74, Value.int IntKind.i64 n75]) ∧
           Ca Try.prog (38 : Nat) #[Value.agg #[Value.int IntKind.i64 n71, Value.slice p72 k73 k74, Value.int IntKind.i64 n75]] w46 fun e76 w77 =>
           ∃ n78 : Int,
           (
            e76 = Ending.returned (Value.int IntKind.i64 n78)) ∧
           Br (n43 != n78)
            (
             R (Ending.returned (Value.bool false)) w77)
            (
             ∃ n79 : Int,
             ∃ p80 : Option Addr,
             ∃ k81 : Nat,
             ∃ k82 : Nat,
             ∃ n83 : Int,
             (
              Row w77 { block := b7, off := (0 : Nat) } (0 : Nat) [Value.int IntKind.i64 n79, Value.slice p80 k81 k82, Value.int IntKind.i64 n83]) ∧
             Ca Try.prog (27 : Nat) #[Value.agg #[Value.int IntKind.i64 n79, Value.slice p80 k81 k82, Value.int IntKind.i64 n83], Value.int IntKind.i64 (IntKind.i64.wrap (↑(BitVec.ofInt (64 : Nat) n6 &&& BitVec.ofInt (64 : Nat) (7 : Int)).toNat : Int))] w77 fun e84 w85 =>
             ∃ n86 : Int,
             ∃ p87 : Option Addr,
             ∃ k88 : Nat,
             ∃ k89 : Nat,
             ∃ n90 : Int,
             ∃ n91 : Int,
             (
              e84 = Ending.returned (Value.tuple #[Value.agg #[Value.int IntKind.i64 n86, Value.slice p87 k88 k89, Value.int IntKind.i64 n90], Value.int IntKind.i64 n91])) ∧
             LetA (Obj.cells #[Value.int IntKind.i64 (0 : Int), Value.slice none (0 : Nat) (0 : Nat), Value.int IntKind.i64 (0 : Int)] (37 : Nat)) w85 fun b92 w93 =>
             (
              WrRow w93 { block := b92, off := (0 : Nat) } (0 : Nat) [Value.int IntKind.i64 n86, Value.slice p87 k88 k89, Value.int IntKind.i64 n90]) ∧
             LetW (setRow w93 { block := b92, off := (0 : Nat) } (0 : Nat) [Value.int IntKind.i64 n86, Value.slice p87 k88 k89, Value.int IntKind.i64 n90]) fun w94 =>
             Br (n91 == (0 : Int))
              (
               ∃ n95 : Int,
               ∃ p96 : Option Addr,
               ∃ k97 : Nat,
               ∃ k98 : Nat,
               ∃ n99 : Int,
               (
                Row w94 { block := b92, off := (0 : Nat) } (0 : Nat) [Value.int IntKind.i64 n95, Value.slice p96 k97 k98, Value.int IntKind.i64 n99]) ∧
               Ca Try.prog (39 : Nat) #[Value.agg #[Value.int IntKind.i64 n95, Value.slice p96 k97 k98, Value.int IntKind.i64 n99], Value.int IntKind.i64 (IntKind.i64.wrap (↑(BitVec.ofInt (64 : Nat) n6 &&& BitVec.ofInt (64 : Nat) (7 : Int)).toNat : Int))] w94 fun e100 w101 =>
               ∃ n102 : Int,
               ∃ b103 : Bool,
               (
                e100 = Ending.returned (Value.tuple #[Value.int IntKind.i64 n102, Value.bool b103])) ∧
               ∃ n104 : Int,
               ∃ p105 : Option Addr,
               ∃ k106 : Nat,
               ∃ k107 : Nat,
               ∃ n108 : Int,
               (
                Row w101 { block := b92, off := (0 : Nat) } (0 : Nat) [Value.int IntKind.i64 n104, Value.slice p105 k106 k107, Value.int IntKind.i64 n108]) ∧
               Ca Try.prog (29 : Nat) #[Value.agg #[Value.int IntKind.i64 n104, Value.slice p105 k106 k107, Value.int IntKind.i64 n108], Value.int IntKind.i64 (IntKind.i64.wrap (↑(BitVec.ofInt (64 : Nat) n6 &&& BitVec.ofInt (64 : Nat) (7 : Int)).toNat : Int))] w101 fun e109 w110 =>
               ∃ n111 : Int,
               ∃ p112 : Option Addr,
               ∃ k113 : Nat,
               ∃ k114 : Nat,
               ∃ n115 : Int,
               ∃ n116 : Int,
               (
                e109 = Ending.returned (Value.tuple #[Value.agg #[Value.int IntKind.i64 n111, Value.slice p112 k113 k114, Value.int IntKind.i64 n115], Value.int IntKind.i64 n116])) ∧
               LetA (Obj.cells #[Value.int IntKind.i64 (0 : Int), Value.slice none (0 : Nat) (0 : Nat), Value.int IntKind.i64 (0 : Int)] (37 : Nat)) w110 fun b117 w118 =>
               (
                WrRow w118 { block := b117, off := (0 : Nat) } (0 : Nat) [Value.int IntKind.i64 n111, Value.slice p112 k113 k114, Value.int IntKind.i64 n115]) ∧
               LetW (setRow w118 { block := b117, off := (0 : Nat) } (0 : Nat) [Value.int IntKind.i64 n111, Value.slice p112 k113 k114, Value.int IntKind.i64 n115]) fun w119 =>
               ∃ n120 : Int,
               ∃ p121 : Option Addr,
               ∃ k122 : Nat,
               ∃ k123 : Nat,
               ∃ n124 : Int,
               (
                Row w119 { block := b92, off := (0 : Nat) } (0 : Nat) [Value.int IntKind.i64 n120, Value.slice p121 k122 k123, Value.int IntKind.i64 n124]) ∧
               Ca Try.prog (34 : Nat) #[Value.agg #[Value.int IntKind.i64 n120, Value.slice p121 k122 k123, Value.int IntKind.i64 n124]] w119 fun e125 w126 =>
               ∃ n127 : Int,
               (
                e125 = Ending.returned (Value.int IntKind.i64 n127)) ∧
               Br (n127 != (0 : Int))
                (
                 R (Ending.returned (Value.bool false)) w126)
                (
                 ∃ n128 : Int,
                 (
                  w126.cell? { block := b92, off := (0 : Nat) } = some (Value.int IntKind.i64 n128)) ∧
                 ∃ n129 : Int,
                 (
                  w126.cell? { block := b7, off := (0 : Nat) } = some (Value.int IntKind.i64 n129)) ∧
                 LetI (IntKind.i64.wrap (n129 + (1 : Int))) fun n130 =>
                 Br (n128 != n130)
                  (
                   R (Ending.returned (Value.bool false)) w126)
                  (
                   ∃ n131 : Int,
                   ∃ p132 : Option Addr,
                   ∃ k133 : Nat,
                   ∃ k134 : Nat,
                   ∃ n135 : Int,
                   (
                    Row w126 { block := b92, off := (0 : Nat) } (0 : Nat) [Value.int IntKind.i64 n131, Value.slice p132 k133 k134, Value.int IntKind.i64 n135]) ∧
                   Ca Try.prog (38 : Nat) #[Value.agg #[Value.int IntKind.i64 n131, Value.slice p132 k133 k134, Value.int IntKind.i64 n135]] w126 fun e136 w137 =>
                   ∃ n138 : Int,
                   (
                    e136 = Ending.returned (Value.int IntKind.i64 n138)) ∧
                   Br (n138 != IntKind.i64.wrap (↑(BitVec.ofInt (64 : Nat) n6 &&& BitVec.ofInt (64 : Nat) (7 : Int)).toNat : Int))
                    (
                     R (Ending.returned (Value.bool false)) w137)
                    (
                     Br (!b103)
                      (
                       R (Ending.returned (Value.bool false)) w137)
                      (
                       ∃ n139 : Int,
                       (
                        w137.cell? { block := b92, off := (0 : Nat) } = some (Value.int IntKind.i64 n139)) ∧
                       Br (n102 != n139)
                        (
                         R (Ending.returned (Value.bool false)) w137)
                        (
                         ∃ n140 : Int,
                         (
                          w137.cell? { block := b7, off := (0 : Nat) } = some (Value.int IntKind.i64 n140)) ∧
                         (
                          Wr w137 { block := b117, off := (0 : Nat) }) ∧
                         LetW (w137.setCell { block := b117, off := (0 : Nat) } (Value.int IntKind.i64 n140)) fun w141 =>
                         ∃ n142 : Int,
                         (
                          w141.cell? { block := b92, off := (0 : Nat) } = some (Value.int IntKind.i64 n142)) ∧
                         Br (decide (n142 < (1099511627776 : Int)))
                          (
                           Br (n116 != (0 : Int))
                            (
                             R (Ending.returned (Value.bool false)) w141)
                            (
                             ∃ n143 : Int,
                             ∃ p144 : Option Addr,
                             ∃ k145 : Nat,
                             ∃ k146 : Nat,
                             ∃ n147 : Int,
                             (
                              Row w141 { block := b117, off := (0 : Nat) } (0 : Nat) [Value.int IntKind.i64 n143, Value.slice p144 k145 k146, Value.int IntKind.i64 n147]) ∧
                             ∃ n148 : Int,
                             ∃ p149 : Option Addr,
                             ∃ k150 : Nat,
                             ∃ k151 : Nat,
                             ∃ n152 : Int,
                             (
                              Row w141 { block := b7, off := (0 : Nat) } (0 : Nat) [Value.int IntKind.i64 n148, Value.slice p149 k150 k151, Value.int IntKind.i64 n152]) ∧
                             Ca Try.prog (40 : Nat) #[Value.agg #[Value.int IntKind.i64 n143, Value.slice p144 k145 k146, Value.int IntKind.i64 n147], Value.agg #[Value.int IntKind.i64 n148, Value.slice p149 k150 k151, Value.int IntKind.i64 n152]] w141 fun e153 w154 =>
                             ∃ b155 : Bool,
                             (
                              e153 = Ending.returned (Value.bool b155)) ∧
                             Br (!b155)
                              (
                               R (Ending.returned (Value.bool false)) w154)
                              (
                               ∃ n156 : Int,
                               ∃ p157 : Option Addr,
                               ∃ k158 : Nat,
                               ∃ k159 : Nat,
                               ∃ n160 : Int,
                               (
                                Row w154 { block := b7, off := (0 : Nat) } (0 : Nat) [Value.int IntKind.i64 n156, Value.slice p157 k158 k159, Value.int IntKind.i64 n160]) ∧
                               Ca Try.prog (29 : Nat) #[Value.agg #[Value.int IntKind.i64 n156, Value.slice p157 k158 k159, Value.int IntKind.i64 n160], Value.int IntKind.i64 (IntKind.i64.wrap (↑(BitVec.ofInt (64 : Nat) n6 &&& BitVec.ofInt (64 : Nat) (7 : Int)).toNat : Int))] w154 fun e161 w162 =>
                               ∃ n163 : Int,
                               ∃ p164 : Option Addr,
                               ∃ k165 : Nat,
                               ∃ k166 : Nat,
                               ∃ n167 : Int,
                               ∃ n168 : Int,
                               (
                                e161 = Ending.returned (Value.tuple #[Value.agg #[Value.int IntKind.i64 n163, Value.slice p164 k165 k166, Value.int IntKind.i64 n167], Value.int IntKind.i64 n168])) ∧
                               LetA (Obj.cells #[Value.int IntKind.i64 (0 : Int), Value.slice none (0 : Nat) (0 : Nat), Value.int IntKind.i64 (0 : Int)] (37 : Nat)) w162 fun b169 w170 =>
                               (
                                WrRow w170 { block := b169, off := (0 : Nat) } (0 : Nat) [Value.int IntKind.i64 n163, Value.slice p164 k165 k166, Value.int IntKind.i64 n167]) ∧
                               LetW (setRow w170 { block := b169, off := (0 : Nat) } (0 : Nat) [Value.int IntKind.i64 n163, Value.slice p164 k165 k166, Value.int IntKind.i64 n167]) fun w171 =>
                               ∃ n172 : Int,
                               ∃ p173 : Option Addr,
                               ∃ k174 : Nat,
                               ∃ k175 : Nat,
                               ∃ n176 : Int,
                               (
                                Row w171 { block := b7, off := (0 : Nat) } (0 : Nat) [Value.int IntKind.i64 n172, Value.slice p173 k174 k175, Value.int IntKind.i64 n176]) ∧
                               Ca Try.prog (31 : Nat) #[Value.agg #[Value.int IntKind.i64 n172, Value.slice p173 k174 k175, Value.int IntKind.i64 n176], Value.int IntKind.i64 (IntKind.i64.wrap (↑(BitVec.ofInt (64 : Nat) n6 &&& BitVec.ofInt (64 : Nat) (7 : Int)).toNat : Int))] w171 fun e177 w178 =>
                               ∃ n179 : Int,
                               ∃ p180 : Option Addr,
                               ∃ k181 : Nat,
                               ∃ k182 : Nat,
                               ∃ n183 : Int,
                               ∃ n184 : Int,
                               (
                                e177 = Ending.returned (Value.tuple #[Value.agg #[Value.int IntKind.i64 n179, Value.slice p180 k181 k182, Value.int IntKind.i64 n183], Value.int IntKind.i64 n184])) ∧
                               LetA (Obj.cells #[Value.int IntKind.i64 (0 : Int), Value.slice none (0 : Nat) (0 : Nat), Value.int IntKind.i64 (0 : Int)] (37 : Nat)) w178 fun b185 w186 =>
                               (
                                WrRow w186 { block := b185, off := (0 : Nat) } (0 : Nat) [Value.int IntKind.i64 n179, Value.slice p180 k181 k182, Value.int IntKind.i64 n183]) ∧
                               LetW (setRow w186 { block := b185, off := (0 : Nat) } (0 : Nat) [Value.int IntKind.i64 n179, Value.slice p180 k181 k182, Value.int IntKind.i64 n183]) fun w187 =>
                               Br (n168 == (0 : Int))
                                (
                                 ∃ n188 : Int,
                                 ∃ p189 : Option Addr,
                                 ∃ k190 : Nat,
                                 ∃ k191 : Nat,
                                 ∃ n192 : Int,
                                 (
                                  Row w187 { block := b169, off := (0 : Nat) } (0 : Nat) [Value.int IntKind.i64 n188, Value.slice p189 k190 k191, Value.int IntKind.i64 n192]) ∧
                                 Ca Try.prog (34 : Nat) #[Value.agg #[Value.int IntKind.i64 n188, Value.slice p189 k190 k191, Value.int IntKind.i64 n192]] w187 fun e193 w194 =>
                                 ∃ n195 : Int,
                                 (
                                  e193 = Ending.returned (Value.int IntKind.i64 n195)) ∧
                                 Br (n195 != (0 : Int))
                                  (
                                   R (Ending.returned (Value.bool false)) w194)
                                  (
                                   ∃ n196 : Int,
                                   (
                                    w194.cell? { block := b169, off := (0 : Nat) } = some (Value.int IntKind.i64 n196)) ∧
                                   ∃ n197 : Int,
                                   (
                                    w194.cell? { block := b7, off := (0 : Nat) } = some (Value.int IntKind.i64 n197)) ∧
                                   LetI (IntKind.i64.wrap (n197 + (1 : Int))) fun n198 =>
                                   Br (n196 != n198)
                                    (
                                     R (Ending.returned (Value.bool false)) w194)
                                    (
                                     ∃ p199 : Option Addr,
                                     ∃ k200 : Nat,
                                     ∃ k201 : Nat,
                                     (
                                      w194.cell? { block := b169, off := (1 : Nat) } = some (Value.slice p199 k200 k201)) ∧
                                     ∃ p202 : Option Addr,
                                     ∃ k203 : Nat,
                                     ∃ k204 : Nat,
                                     (
                                      w194.cell? { block := b7, off := (1 : Nat) } = some (Value.slice p202 k203 k204)) ∧
                                     LetI (IntKind.i64.wrap ((↑k203 : Int) - (1 : Int))) fun n205 =>
                                     Br ((↑k200 : Int) != n205)
                                      (
                                       R (Ending.returned (Value.bool false)) w194)
                                      (
                                       Br (n184 == (0 : Int))
                                        (
                                         ∃ n206 : Int,
                                         ∃ p207 : Option Addr,
                                         ∃ k208 : Nat,
                                         ∃ k209 : Nat,
                                         ∃ n210 : Int,
                                         (
                                          Row w194 { block := b185, off := (0 : Nat) } (0 : Nat) [Value.int IntKind.i64 n206, Value.slice p207 k208 k209, Value.int IntKind.i64 n210]) ∧
                                         Ca Try.prog (34 : Nat) #[Value.agg #[Value.int IntKind.i64 n206, Value.slice p207 k208 k209, Value.int IntKind.i64 n210]] w194 fun e211 w212 =>
                                         ∃ n213 : Int,
                                         (
                                          e211 = Ending.returned (Value.int IntKind.i64 n213)) ∧
                                         Br (n213 != (0 : Int))
                                          (
                                           R (Ending.returned (Value.bool false)) w212)
                                          (
                                           ∃ n214 : Int,
                                           (
                                            w212.cell? { block := b185, off := (2 : Nat) } = some (Value.int IntKind.i64 n214)) ∧
                                           Br (n214 != IntKind.i64.wrap (↑(BitVec.ofInt (64 : Nat) n6 &&& BitVec.ofInt (64 : Nat) (7 : Int)).toNat : Int))
                                            (
                                             R (Ending.returned (Value.bool false)) w212)
                                            (
                                             ∃ n215 : Int,
                                             (
                                              w212.cell? { block := b185, off := (0 : Nat) } = some (Value.int IntKind.i64 n215)) ∧
                                             ∃ n216 : Int,
                                             (
                                              w212.cell? { block := b7, off := (0 : Nat) } = some (Value.int IntKind.i64 n216)) ∧
                                             LetI (IntKind.i64.wrap (n216 + (1 : Int))) fun n217 =>
                                             Br (n215 != n217)
                                              (
                                               R (Ending.returned (Value.bool false)) w212)
                                              (
                                               ∃ n218 : Int,
                                               ∃ p219 : Option Addr,
                                               ∃ k220 : Nat,
                                               ∃ k221 : Nat,
                                               ∃ n222 : Int,
                                               (
                                                Row w212 { block := b169, off := (0 : Nat) } (0 : Nat) [Value.int IntKind.i64 n218, Value.slice p219 k220 k221, Value.int IntKind.i64 n222]) ∧
                                               Ca Try.prog (39 : Nat) #[Value.agg #[Value.int IntKind.i64 n218, Value.slice p219 k220 k221, Value.int IntKind.i64 n222], Value.int IntKind.i64 (IntKind.i64.wrap (↑(BitVec.ofInt (64 : Nat) n6 &&& BitVec.ofInt (64 : Nat) (7 : Int)).toNat : Int))] w212 fun e223 w224 =>
                                               ∃ n225 : Int,
                                               ∃ b226 : Bool,
                                               (
                                                e223 = Ending.returned (Value.tuple #[Value.int IntKind.i64 n225, Value.bool b226])) ∧
                                               Br (!b226)
                                                (
                                                 Ca Try.prog (26 : Nat) #[] w224 fun e227 w228 =>
                                                 ∃ b229 : Bool,
                                                 (
                                                  e227 = Ending.returned (Value.bool b229)) ∧
                                                 R (Ending.returned (Value.bool b229)) w228)
                                                (
                                                 R (Ending.returned (Value.bool false)) w224)))))
                                        (
                                         ∃ n230 : Int,
                                         ∃ p231 : Option Addr,
                                         ∃ k232 : Nat,
                                         ∃ k233 : Nat,
                                         ∃ n234 : Int,
                                         (
                                          Row w194 { block := b169, off := (0 : Nat) } (0 : Nat) [Value.int IntKind.i64 n230, Value.slice p231 k232 k233, Value.int IntKind.i64 n234]) ∧
                                         Ca Try.prog (39 : Nat) #[Value.agg #[Value.int IntKind.i64 n230, Value.slice p231 k232 k233, Value.int IntKind.i64 n234], Value.int IntKind.i64 (IntKind.i64.wrap (↑(BitVec.ofInt (64 : Nat) n6 &&& BitVec.ofInt (64 : Nat) (7 : Int)).toNat : Int))] w194 fun e235 w236 =>
                                         ∃ n237 : Int,
                                         ∃ b238 : Bool,
                                         (
                                          e235 = Ending.returned (Value.tuple #[Value.int IntKind.i64 n237, Value.bool b238])) ∧
                                         Br (!b238)
                                          (
                                           Ca Try.prog (26 : Nat) #[] w236 fun e239 w240 =>
                                           ∃ b241 : Bool,
                                           (
                                            e239 = Ending.returned (Value.bool b241)) ∧
                                           R (Ending.returned (Value.bool b241)) w240)
                                          (
                                           R (Ending.returned (Value.bool false)) w236))))))
                                (
                                 Br (n184 == (0 : Int))
                                  (
                                   ∃ n242 : Int,
                                   ∃ p243 : Option Addr,
                                   ∃ k244 : Nat,
                                   ∃ k245 : Nat,
                                   ∃ n246 : Int,
                                   (
                                    Row w187 { block := b185, off := (0 : Nat) } (0 : Nat) [Value.int IntKind.i64 n242, Value.slice p243 k244 k245, Value.int IntKind.i64 n246]) ∧
                                   Ca Try.prog (34 : Nat) #[Value.agg #[Value.int IntKind.i64 n242, Value.slice p243 k244 k245, Value.int IntKind.i64 n246]] w187 fun e247 w248 =>
                                   ∃ n249 : Int,
                                   (
                                    e247 = Ending.returned (Value.int IntKind.i64 n249)) ∧
                                   Br (n249 != (0 : Int))
                                    (
                                     R (Ending.returned (Value.bool false)) w248)
                                    (
                                     ∃ n250 : Int,
                                     (
                                      w248.cell? { block := b185, off := (2 : Nat) } = some (Value.int IntKind.i64 n250)) ∧
                                     Br (n250 != IntKind.i64.wrap (↑(BitVec.ofInt (64 : Nat) n6 &&& BitVec.ofInt (64 : Nat) (7 : Int)).toNat : Int))
                                      (
                                       R (Ending.returned (Value.bool false)) w248)
                                      (
                                       ∃ n251 : Int,
                                       (
                                        w248.cell? { block := b185, off := (0 : Nat) } = some (Value.int IntKind.i64 n251)) ∧
                                       ∃ n252 : Int,
                                       (
                                        w248.cell? { block := b7, off := (0 : Nat) } = some (Value.int IntKind.i64 n252)) ∧
                                       LetI (IntKind.i64.wrap (n252 + (1 : Int))) fun n253 =>
                                       Br (n251 != n253)
                                        (
                                         R (Ending.returned (Value.bool false)) w248)
                                        (
                                         ∃ n254 : Int,
                                         ∃ p255 : Option Addr,
                                         ∃ k256 : Nat,
                                         ∃ k257 : Nat,
                                         ∃ n258 : Int,
                                         (
                                          Row w248 { block := b169, off := (0 : Nat) } (0 : Nat) [Value.int IntKind.i64 n254, Value.slice p255 k256 k257, Value.int IntKind.i64 n258]) ∧
                                         Ca Try.prog (39 : Nat) #[Value.agg #[Value.int IntKind.i64 n254, Value.slice p255 k256 k257, Value.int IntKind.i64 n258], Value.int IntKind.i64 (IntKind.i64.wrap (↑(BitVec.ofInt (64 : Nat) n6 &&& BitVec.ofInt (64 : Nat) (7 : Int)).toNat : Int))] w248 fun e259 w260 =>
                                         ∃ n261 : Int,
                                         ∃ b262 : Bool,
                                         (
                                          e259 = Ending.returned (Value.tuple #[Value.int IntKind.i64 n261, Value.bool b262])) ∧
                                         Br (!b262)
                                          (
                                           Ca Try.prog (26 : Nat) #[] w260 fun e263 w264 =>
                                           ∃ b265 : Bool,
                                           (
                                            e263 = Ending.returned (Value.bool b265)) ∧
                                           R (Ending.returned (Value.bool b265)) w264)
                                          (
                                           R (Ending.returned (Value.bool false)) w260)))))
                                  (
                                   ∃ n266 : Int,
                                   ∃ p267 : Option Addr,
                                   ∃ k268 : Nat,
                                   ∃ k269 : Nat,
                                   ∃ n270 : Int,
                                   (
                                    Row w187 { block := b169, off := (0 : Nat) } (0 : Nat) [Value.int IntKind.i64 n266, Value.slice p267 k268 k269, Value.int IntKind.i64 n270]) ∧
                                   Ca Try.prog (39 : Nat) #[Value.agg #[Value.int IntKind.i64 n266, Value.slice p267 k268 k269, Value.int IntKind.i64 n270], Value.int IntKind.i64 (IntKind.i64.wrap (↑(BitVec.ofInt (64 : Nat) n6 &&& BitVec.ofInt (64 : Nat) (7 : Int)).toNat : Int))] w187 fun e271 w272 =>
                                   ∃ n273 : Int,
                                   ∃ b274 : Bool,
                                   (
                                    e271 = Ending.returned (Value.tuple #[Value.int IntKind.i64 n273, Value.bool b274])) ∧
                                   Br (!b274)
                                    (
                                     Ca Try.prog (26 : Nat) #[] w272 fun e275 w276 =>
                                     ∃ b277 : Bool,
                                     (
                                      e275 = Ending.returned (Value.bool b277)) ∧
                                     R (Ending.returned (Value.bool b277)) w276)
                                    (
                                     R (Ending.returned (Value.bool false)) w272))))))
                          (
                           ∃ n278 : Int,
                           ∃ p279 : Option Addr,
                           ∃ k280 : Nat,
                           ∃ k281 : Nat,
                           ∃ n282 : Int,
                           (
                            Row w141 { block := b7, off := (0 : Nat) } (0 : Nat) [Value.int IntKind.i64 n278, Value.slice p279 k280 k281, Value.int IntKind.i64 n282]) ∧
                           Ca Try.prog (29 : Nat) #[Value.agg #[Value.int IntKind.i64 n278, Value.slice p279 k280 k281, Value.int IntKind.i64 n282], Value.int IntKind.i64 (IntKind.i64.wrap (↑(BitVec.ofInt (64 : Nat) n6 &&& BitVec.ofInt (64 : Nat) (7 : Int)).toNat : Int))] w141 fun e283 w284 =>
                           ∃ n285 : Int,
                           ∃ p286 : Option Addr,
                           ∃ k287 : Nat,
                           ∃ k288 : Nat,
                           ∃ n289 : Int,
                           ∃ n290 : Int,
                           (
                            e283 = Ending.returned (Value.tuple #[Value.agg #[Value.int IntKind.i64 n285, Value.slice p286 k287 k288, Value.int IntKind.i64 n289], Value.int IntKind.i64 n290])) ∧
                           LetA (Obj.cells #[Value.int IntKind.i64 (0 : Int), Value.slice none (0 : Nat) (0 : Nat), Value.int IntKind.i64 (0 : Int)] (37 : Nat)) w284 fun b291 w292 =>
                           (
                            WrRow w292 { block := b291, off := (0 : Nat) } (0 : Nat) [Value.int IntKind.i64 n285, Value.slice p286 k287 k288, Value.int IntKind.i64 n289]) ∧
                           LetW (setRow w292 { block := b291, off := (0 : Nat) } (0 : Nat) [Value.int IntKind.i64 n285, Value.slice p286 k287 k288, Value.int IntKind.i64 n289]) fun w293 =>
                           ∃ n294 : Int,
                           ∃ p295 : Option Addr,
                           ∃ k296 : Nat,
                           ∃ k297 : Nat,
                           ∃ n298 : Int,
                           (
                            Row w293 { block := b7, off := (0 : Nat) } (0 : Nat) [Value.int IntKind.i64 n294, Value.slice p295 k296 k297, Value.int IntKind.i64 n298]) ∧
                           Ca Try.prog (31 : Nat) #[Value.agg #[Value.int IntKind.i64 n294, Value.slice p295 k296 k297, Value.int IntKind.i64 n298], Value.int IntKind.i64 (IntKind.i64.wrap (↑(BitVec.ofInt (64 : Nat) n6 &&& BitVec.ofInt (64 : Nat) (7 : Int)).toNat : Int))] w293 fun e299 w300 =>
                           ∃ n301 : Int,
                           ∃ p302 : Option Addr,
                           ∃ k303 : Nat,
                           ∃ k304 : Nat,
                           ∃ n305 : Int,
                           ∃ n306 : Int,
                           (
                            e299 = Ending.returned (Value.tuple #[Value.agg #[Value.int IntKind.i64 n301, Value.slice p302 k303 k304, Value.int IntKind.i64 n305], Value.int IntKind.i64 n306])) ∧
                           LetA (Obj.cells #[Value.int IntKind.i64 (0 : Int), Value.slice none (0 : Nat) (0 : Nat), Value.int IntKind.i64 (0 : Int)] (37 : Nat)) w300 fun b307 w308 =>
                           (
                            WrRow w308 { block := b307, off := (0 : Nat) } (0 : Nat) [Value.int IntKind.i64 n301, Value.slice p302 k303 k304, Value.int IntKind.i64 n305]) ∧
                           LetW (setRow w308 { block := b307, off := (0 : Nat) } (0 : Nat) [Value.int IntKind.i64 n301, Value.slice p302 k303 k304, Value.int IntKind.i64 n305]) fun w309 =>
                           Br (n290 == (0 : Int))
                            (
                             ∃ n310 : Int,
                             ∃ p311 : Option Addr,
                             ∃ k312 : Nat,
                             ∃ k313 : Nat,
                             ∃ n314 : Int,
                             (
                              Row w309 { block := b291, off := (0 : Nat) } (0 : Nat) [Value.int IntKind.i64 n310, Value.slice p311 k312 k313, Value.int IntKind.i64 n314]) ∧
                             Ca Try.prog (34 : Nat) #[Value.agg #[Value.int IntKind.i64 n310, Value.slice p311 k312 k313, Value.int IntKind.i64 n314]] w309 fun e315 w316 =>
                             ∃ n317 : Int,
                             (
                              e315 = Ending.returned (Value.int IntKind.i64 n317)) ∧
                             Br (n317 != (0 : Int))
                              (
                               R (Ending.returned (Value.bool false)) w316)
                              (
                               ∃ n318 : Int,
                               (
                                w316.cell? { block := b291, off := (0 : Nat) } = some (Value.int IntKind.i64 n318)) ∧
                               ∃ n319 : Int,
                               (
                                w316.cell? { block := b7, off := (0 : Nat) } = some (Value.int IntKind.i64 n319)) ∧
                               LetI (IntKind.i64.wrap (n319 + (1 : Int))) fun n320 =>
                               Br (n318 != n320)
                                (
                                 R (Ending.returned (Value.bool false)) w316)
                                (
                                 ∃ p321 : Option Addr,
                                 ∃ k322 : Nat,
                                 ∃ k323 : Nat,
                                 (
                                  w316.cell? { block := b291, off := (1 : Nat) } = some (Value.slice p321 k322 k323)) ∧
                                 ∃ p324 : Option Addr,
                                 ∃ k325 : Nat,
                                 ∃ k326 : Nat,
                                 (
                                  w316.cell? { block := b7, off := (1 : Nat) } = some (Value.slice p324 k325 k326)) ∧
                                 LetI (IntKind.i64.wrap ((↑k325 : Int) - (1 : Int))) fun n327 =>
                                 Br ((↑k322 : Int) != n327)
                                  (
                                   R (Ending.returned (Value.bool false)) w316)
                                  (
                                   Br (n306 == (0 : Int))
                                    (
                                     ∃ n328 : Int,
                                     ∃ p329 : Option Addr,
                                     ∃ k330 : Nat,
                                     ∃ k331 : Nat,
                                     ∃ n332 : Int,
                                     (
                                      Row w316 { block := b307, off := (0 : Nat) } (0 : Nat) [Value.int IntKind.i64 n328, Value.slice p329 k330 k331, Value.int IntKind.i64 n332]) ∧
                                     Ca Try.prog (34 : Nat) #[Value.agg #[Value.int IntKind.i64 n328, Value.slice p329 k330 k331, Value.int IntKind.i64 n332]] w316 fun e333 w334 =>
                                     ∃ n335 : Int,
                                     (
                                      e333 = Ending.returned (Value.int IntKind.i64 n335)) ∧
                                     Br (n335 != (0 : Int))
                                      (
                                       R (Ending.returned (Value.bool false)) w334)
                                      (
                                       ∃ n336 : Int,
                                       (
                                        w334.cell? { block := b307, off := (2 : Nat) } = some (Value.int IntKind.i64 n336)) ∧
                                       Br (n336 != IntKind.i64.wrap (↑(BitVec.ofInt (64 : Nat) n6 &&& BitVec.ofInt (64 : Nat) (7 : Int)).toNat : Int))
                                        (
                                         R (Ending.returned (Value.bool false)) w334)
                                        (
                                         ∃ n337 : Int,
                                         (
                                          w334.cell? { block := b307, off := (0 : Nat) } = some (Value.int IntKind.i64 n337)) ∧
                                         ∃ n338 : Int,
                                         (
                                          w334.cell? { block := b7, off := (0 : Nat) } = some (Value.int IntKind.i64 n338)) ∧
                                         LetI (IntKind.i64.wrap (n338 + (1 : Int))) fun n339 =>
                                         Br (n337 != n339)
                                          (
                                           R (Ending.returned (Value.bool false)) w334)
                                          (
                                           ∃ n340 : Int,
                                           ∃ p341 : Option Addr,
                                           ∃ k342 : Nat,
                                           ∃ k343 : Nat,
                                           ∃ n344 : Int,
                                           (
                                            Row w334 { block := b291, off := (0 : Nat) } (0 : Nat) [Value.int IntKind.i64 n340, Value.slice p341 k342 k343, Value.int IntKind.i64 n344]) ∧
                                           Ca Try.prog (39 : Nat) #[Value.agg #[Value.int IntKind.i64 n340, Value.slice p341 k342 k343, Value.int IntKind.i64 n344], Value.int IntKind.i64 (IntKind.i64.wrap (↑(BitVec.ofInt (64 : Nat) n6 &&& BitVec.ofInt (64 : Nat) (7 : Int)).toNat : Int))] w334 fun e345 w346 =>
                                           ∃ n347 : Int,
                                           ∃ b348 : Bool,
                                           (
                                            e345 = Ending.returned (Value.tuple #[Value.int IntKind.i64 n347, Value.bool b348])) ∧
                                           Br (!b348)
                                            (
                                             Ca Try.prog (26 : Nat) #[] w346 fun e349 w350 =>
                                             ∃ b351 : Bool,
                                             (
                                              e349 = Ending.returned (Value.bool b351)) ∧
                                             R (Ending.returned (Value.bool b351)) w350)
                                            (
                                             R (Ending.returned (Value.bool false)) w346)))))
                                    (
                                     ∃ n352 : Int,
                                     ∃ p353 : Option Addr,
                                     ∃ k354 : Nat,
                                     ∃ k355 : Nat,
                                     ∃ n356 : Int,
                                     (
                                      Row w316 { block := b291, off := (0 : Nat) } (0 : Nat) [Value.int IntKind.i64 n352, Value.slice p353 k354 k355, Value.int IntKind.i64 n356]) ∧
                                     Ca Try.prog (39 : Nat) #[Value.agg #[Value.int IntKind.i64 n352, Value.slice p353 k354 k355, Value.int IntKind.i64 n356], Value.int IntKind.i64 (IntKind.i64.wrap (↑(BitVec.ofInt (64 : Nat) n6 &&& BitVec.ofInt (64 : Nat) (7 : Int)).toNat : Int))] w316 fun e357 w358 =>
                                     ∃ n359 : Int,
                                     ∃ b360 : Bool,
                                     (
                                      e357 = Ending.returned (Value.tuple #[Value.int IntKind.i64 n359, Value.bool b360])) ∧
                                     Br (!b360)
                                      (
                                       Ca Try.prog (26 : Nat) #[] w358 fun e361 w362 =>
                                       ∃ b363 : Bool,
                                       (
                                        e361 = Ending.returned (Value.bool b363)) ∧
                                       R (Ending.returned (Value.bool b363)) w362)
                                      (
                                       R (Ending.returned (Value.bool false)) w358))))))
                            (
                             Br (n306 == (0 : Int))
                              (
                               ∃ n364 : Int,
                               ∃ p365 : Option Addr,
                               ∃ k366 : Nat,
                               ∃ k367 : Nat,
                               ∃ n368 : Int,
                               (
                                Row w309 { block := b307, off := (0 : Nat) } (0 : Nat) [Value.int IntKind.i64 n364, Value.slice p365 k366 k367, Value.int IntKind.i64 n368]) ∧
                               Ca Try.prog (34 : Nat) #[Value.agg #[Value.int IntKind.i64 n364, Value.slice p365 k366 k367, Value.int IntKind.i64 n368]] w309 fun e369 w370 =>
                               ∃ n371 : Int,
                               (
                                e369 = Ending.returned (Value.int IntKind.i64 n371)) ∧
                               Br (n371 != (0 : Int))
                                (
                                 R (Ending.returned (Value.bool false)) w370)
                                (
                                 ∃ n372 : Int,
                                 (
                                  w370.cell? { block := b307, off := (2 : Nat) } = some (Value.int IntKind.i64 n372)) ∧
                                 Br (n372 != IntKind.i64.wrap (↑(BitVec.ofInt (64 : Nat) n6 &&& BitVec.ofInt (64 : Nat) (7 : Int)).toNat : Int))
                                  (
                                   R (Ending.returned (Value.bool false)) w370)
                                  (
                                   ∃ n373 : Int,
                                   (
                                    w370.cell? { block := b307, off := (0 : Nat) } = some (Value.int IntKind.i64 n373)) ∧
                                   ∃ n374 : Int,
                                   (
                                    w370.cell? { block := b7, off := (0 : Nat) } = some (Value.int IntKind.i64 n374)) ∧
                                   LetI (IntKind.i64.wrap (n374 + (1 : Int))) fun n375 =>
                                   Br (n373 != n375)
                                    (
                                     R (Ending.returned (Value.bool false)) w370)
                                    (
                                     ∃ n376 : Int,
                                     ∃ p377 : Option Addr,
                                     ∃ k378 : Nat,
                                     ∃ k379 : Nat,
                                     ∃ n380 : Int,
                                     (
                                      Row w370 { block := b291, off := (0 : Nat) } (0 : Nat) [Value.int IntKind.i64 n376, Value.slice p377 k378 k379, Value.int IntKind.i64 n380]) ∧
                                     Ca Try.prog (39 : Nat) #[Value.agg #[Value.int IntKind.i64 n376, Value.slice p377 k378 k379, Value.int IntKind.i64 n380], Value.int IntKind.i64 (IntKind.i64.wrap (↑(BitVec.ofInt (64 : Nat) n6 &&& BitVec.ofInt (64 : Nat) (7 : Int)).toNat : Int))] w370 fun e381 w382 =>
                                     ∃ n383 : Int,
                                     ∃ b384 : Bool,
                                     (
                                      e381 = Ending.returned (Value.tuple #[Value.int IntKind.i64 n383, Value.bool b384])) ∧
                                     Br (!b384)
                                      (
                                       Ca Try.prog (26 : Nat) #[] w382 fun e385 w386 =>
                                       ∃ b387 : Bool,
                                       (
                                        e385 = Ending.returned (Value.bool b387)) ∧
                                       R (Ending.returned (Value.bool b387)) w386)
                                      (
                                       R (Ending.returned (Value.bool false)) w382)))))
                              (
                               ∃ n388 : Int,
                               ∃ p389 : Option Addr,
                               ∃ k390 : Nat,
                               ∃ k391 : Nat,
                               ∃ n392 : Int,
                               (
                                Row w309 { block := b291, off := (0 : Nat) } (0 : Nat) [Value.int IntKind.i64 n388, Value.slice p389 k390 k391, Value.int IntKind.i64 n392]) ∧
                               Ca Try.prog (39 : Nat) #[Value.agg #[Value.int IntKind.i64 n388, Value.slice p389 k390 k391, Value.int IntKind.i64 n392], Value.int IntKind.i64 (IntKind.i64.wrap (↑(BitVec.ofInt (64 : Nat) n6 &&& BitVec.ofInt (64 : Nat) (7 : Int)).toNat : Int))] w309 fun e393 w394 =>
                               ∃ n395 : Int,
                               ∃ b396 : Bool,
                               (
                                e393 = Ending.returned (Value.tuple #[Value.int IntKind.i64 n395, Value.bool b396])) ∧
                               Br (!b396)
                                (
                                 Ca Try.prog (26 : Nat) #[] w394 fun e397 w398 =>
                                 ∃ b399 : Bool,
                                 (
                                  e397 = Ending.returned (Value.bool b399)) ∧
                                 R (Ending.returned (Value.bool b399)) w398)
                                (
                                 R (Ending.returned (Value.bool false)) w394))))))))))
              (
               ∃ n400 : Int,
               ∃ p401 : Option Addr,
               ∃ k402 : Nat,
               ∃ k403 : Nat,
               ∃ n404 : Int,
               (
                Row w94 { block := b7, off := (0 : Nat) } (0 : Nat) [Value.int IntKind.i64 n400, Value.slice p401 k402 k403, Value.int IntKind.i64 n404]) ∧
               Ca Try.prog (29 : Nat) #[Value.agg #[Value.int IntKind.i64 n400, Value.slice p401 k402 k403, Value.int IntKind.i64 n404], Value.int IntKind.i64 (IntKind.i64.wrap (↑(BitVec.ofInt (64 : Nat) n6 &&& BitVec.ofInt (64 : Nat) (7 : Int)).toNat : Int))] w94 fun e405 w406 =>
               ∃ n407 : Int,
               ∃ p408 : Option Addr,
               ∃ k409 : Nat,
               ∃ k410 : Nat,
               ∃ n411 : Int,
               ∃ n412 : Int,
               (
                e405 = Ending.returned (Value.tuple #[Value.agg #[Value.int IntKind.i64 n407, Value.slice p408 k409 k410, Value.int IntKind.i64 n411], Value.int IntKind.i64 n412])) ∧
               LetA (Obj.cells #[Value.int IntKind.i64 (0 : Int), Value.slice none (0 : Nat) (0 : Nat), Value.int IntKind.i64 (0 : Int)] (37 : Nat)) w406 fun b413 w414 =>
               (
                WrRow w414 { block := b413, off := (0 : Nat) } (0 : Nat) [Value.int IntKind.i64 n407, Value.slice p408 k409 k410, Value.int IntKind.i64 n411]) ∧
               LetW (setRow w414 { block := b413, off := (0 : Nat) } (0 : Nat) [Value.int IntKind.i64 n407, Value.slice p408 k409 k410, Value.int IntKind.i64 n411]) fun w415 =>
               ∃ n416 : Int,
               ∃ p417 : Option Addr,
               ∃ k418 : Nat,
               ∃ k419 : Nat,
               ∃ n420 : Int,
               (
                Row w415 { block := b7, off := (0 : Nat) } (0 : Nat) [Value.int IntKind.i64 n416, Value.slice p417 k418 k419, Value.int IntKind.i64 n420]) ∧
               Ca Try.prog (31 : Nat) #[Value.agg #[Value.int IntKind.i64 n416, Value.slice p417 k418 k419, Value.int IntKind.i64 n420], Value.int IntKind.i64 (IntKind.i64.wrap (↑(BitVec.ofInt (64 : Nat) n6 &&& BitVec.ofInt (64 : Nat) (7 : Int)).toNat : Int))] w415 fun e421 w422 =>
               ∃ n423 : Int,
               ∃ p424 : Option Addr,
               ∃ k425 : Nat,
               ∃ k426 : Nat,
               ∃ n427 : Int,
               ∃ n428 : Int,
               (
                e421 = Ending.returned (Value.tuple #[Value.agg #[Value.int IntKind.i64 n423, Value.slice p424 k425 k426, Value.int IntKind.i64 n427], Value.int IntKind.i64 n428])) ∧
               LetA (Obj.cells #[Value.int IntKind.i64 (0 : Int), Value.slice none (0 : Nat) (0 : Nat), Value.int IntKind.i64 (0 : Int)] (37 : Nat)) w422 fun b429 w430 =>
               (
                WrRow w430 { block := b429, off := (0 : Nat) } (0 : Nat) [Value.int IntKind.i64 n423, Value.slice p424 k425 k426, Value.int IntKind.i64 n427]) ∧
               LetW (setRow w430 { block := b429, off := (0 : Nat) } (0 : Nat) [Value.int IntKind.i64 n423, Value.slice p424 k425 k426, Value.int IntKind.i64 n427]) fun w431 =>
               Br (n412 == (0 : Int))
                (
                 ∃ n432 : Int,
                 ∃ p433 : Option Addr,
                 ∃ k434 : Nat,
                 ∃ k435 : Nat,
                 ∃ n436 : Int,
                 (
                  Row w431 { block := b413, off := (0 : Nat) } (0 : Nat) [Value.int IntKind.i64 n432, Value.slice p433 k434 k435, Value.int IntKind.i64 n436]) ∧
                 Ca Try.prog (34 : Nat) #[Value.agg #[Value.int IntKind.i64 n432, Value.slice p433 k434 k435, Value.int IntKind.i64 n436]] w431 fun e437 w438 =>
                 ∃ n439 : Int,
                 (
                  e437 = Ending.returned (Value.int IntKind.i64 n439)) ∧
                 Br (n439 != (0 : Int))
                  (
                   R (Ending.returned (Value.bool false)) w438)
                  (
                   ∃ n440 : Int,
                   (
                    w438.cell? { block := b413, off := (0 : Nat) } = some (Value.int IntKind.i64 n440)) ∧
                   ∃ n441 : Int,
                   (
                    w438.cell? { block := b7, off := (0 : Nat) } = some (Value.int IntKind.i64 n441)) ∧
                   LetI (IntKind.i64.wrap (n441 + (1 : Int))) fun n442 =>
                   Br (n440 != n442)
                    (
                     R (Ending.returned (Value.bool false)) w438)
                    (
                     ∃ p443 : Option Addr,
                     ∃ k444 : Nat,
                     ∃ k445 : Nat,
                     (
                      w438.cell? { block := b413, off := (1 : Nat) } = some (Value.slice p443 k444 k445)) ∧
                     ∃ p446 : Option Addr,
                     ∃ k447 : Nat,
                     ∃ k448 : Nat,
                     (
                      w438.cell? { block := b7, off := (1 : Nat) } = some (Value.slice p446 k447 k448)) ∧
                     LetI (IntKind.i64.wrap ((↑k447 : Int) - (1 : Int))) fun n449 =>
                     Br ((↑k444 : Int) != n449)
                      (
                       R (Ending.returned (Value.bool false)) w438)
                      (
                       Br (n428 == (0 : Int))
                        (
                         ∃ n450 : Int,
                         ∃ p451 : Option Addr,
                         ∃ k452 : Nat,
                         ∃ k453 : Nat,
                         ∃ n454 : Int,
                         (
                          Row w438 { block := b429, off := (0 : Nat) } (0 : Nat) [Value.int IntKind.i64 n450, Value.slice p451 k452 k453, Value.int IntKind.i64 n454]) ∧
                         Ca Try.prog (34 : Nat) #[Value.agg #[Value.int IntKind.i64 n450, Value.slice p451 k452 k453, Value.int IntKind.i64 n454]] w438 fun e455 w456 =>
                         ∃ n457 : Int,
                         (
                          e455 = Ending.returned (Value.int IntKind.i64 n457)) ∧
                         Br (n457 != (0 : Int))
                          (
                           R (Ending.returned (Value.bool false)) w456)
                          (
                           ∃ n458 : Int,
                           (
                            w456.cell? { block := b429, off := (2 : Nat) } = some (Value.int IntKind.i64 n458)) ∧
                           Br (n458 != IntKind.i64.wrap (↑(BitVec.ofInt (64 : Nat) n6 &&& BitVec.ofInt (64 : Nat) (7 : Int)).toNat : Int))
                            (
                             R (Ending.returned (Value.bool false)) w456)
                            (
                             ∃ n459 : Int,
                             (
                              w456.cell? { block := b429, off := (0 : Nat) } = some (Value.int IntKind.i64 n459)) ∧
                             ∃ n460 : Int,
                             (
                              w456.cell? { block := b7, off := (0 : Nat) } = some (Value.int IntKind.i64 n460)) ∧
                             LetI (IntKind.i64.wrap (n460 + (1 : Int))) fun n461 =>
                             Br (n459 != n461)
                              (
                               R (Ending.returned (Value.bool false)) w456)
                              (
                               ∃ n462 : Int,
                               ∃ p463 : Option Addr,
                               ∃ k464 : Nat,
                               ∃ k465 : Nat,
                               ∃ n466 : Int,
                               (
                                Row w456 { block := b413, off := (0 : Nat) } (0 : Nat) [Value.int IntKind.i64 n462, Value.slice p463 k464 k465, Value.int IntKind.i64 n466]) ∧
                               Ca Try.prog (39 : Nat) #[Value.agg #[Value.int IntKind.i64 n462, Value.slice p463 k464 k465, Value.int IntKind.i64 n466], Value.int IntKind.i64 (IntKind.i64.wrap (↑(BitVec.ofInt (64 : Nat) n6 &&& BitVec.ofInt (64 : Nat) (7 : Int)).toNat : Int))] w456 fun e467 w468 =>
                               ∃ n469 : Int,
                               ∃ b470 : Bool,
                               (
                                e467 = Ending.returned (Value.tuple #[Value.int IntKind.i64 n469, Value.bool b470])) ∧
                               Br (!b470)
                                (
                                 Ca Try.prog (26 : Nat) #[] w468 fun e471 w472 =>
                                 ∃ b473 : Bool,
                                 (
                                  e471 = Ending.returned (Value.bool b473)) ∧
                                 R (Ending.returned (Value.bool b473)) w472)
                                (
                                 R (Ending.returned (Value.bool false)) w468)))))
                        (
                         ∃ n474 : Int,
                         ∃ p475 : Option Addr,
                         ∃ k476 : Nat,
                         ∃ k477 : Nat,
                         ∃ n478 : Int,
                         (
                          Row w438 { block := b413, off := (0 : Nat) } (0 : Nat) [Value.int IntKind.i64 n474, Value.slice p475 k476 k477, Value.int IntKind.i64 n478]) ∧
                         Ca Try.prog (39 : Nat) #[Value.agg #[Value.int IntKind.i64 n474, Value.slice p475 k476 k477, Value.int IntKind.i64 n478], Value.int IntKind.i64 (IntKind.i64.wrap (↑(BitVec.ofInt (64 : Nat) n6 &&& BitVec.ofInt (64 : Nat) (7 : Int)).toNat : Int))] w438 fun e479 w480 =>
                         ∃ n481 : Int,
                         ∃ b482 : Bool,
                         (
                          e479 = Ending.returned (Value.tuple #[Value.int IntKind.i64 n481, Value.bool b482])) ∧
                         Br (!b482)
                          (
                           Ca Try.prog (26 : Nat) #[] w480 fun e483 w484 =>
                           ∃ b485 : Bool,
                           (
                            e483 = Ending.returned (Value.bool b485)) ∧
                           R (Ending.returned (Value.bool b485)) w484)
                          (
                           R (Ending.returned (Value.bool false)) w480))))))
                (
                 Br (n428 == (0 : Int))
                  (
                   ∃ n486 : Int,
                   ∃ p487 : Option Addr,
                   ∃ k488 : Nat,
                   ∃ k489 : Nat,
                   ∃ n490 : Int,
                   (
                    Row w431 { block := b429, off := (0 : Nat) } (0 : Nat) [Value.int IntKind.i64 n486, Value.slice p487 k488 k489, Value.int IntKind.i64 n490]) ∧
                   Ca Try.prog (34 : Nat) #[Value.agg #[Value.int IntKind.i64 n486, Value.slice p487 k488 k489, Value.int IntKind.i64 n490]] w431 fun e491 w492 =>
                   ∃ n493 : Int,
                   (
                    e491 = Ending.returned (Value.int IntKind.i64 n493)) ∧
                   Br (n493 != (0 : Int))
                    (
                     R (Ending.returned (Value.bool false)) w492)
                    (
                     ∃ n494 : Int,
                     (
                      w492.cell? { block := b429, off := (2 : Nat) } = some (Value.int IntKind.i64 n494)) ∧
                     Br (n494 != IntKind.i64.wrap (↑(BitVec.ofInt (64 : Nat) n6 &&& BitVec.ofInt (64 : Nat) (7 : Int)).toNat : Int))
                      (
                       R (Ending.returned (Value.bool false)) w492)
                      (
                       ∃ n495 : Int,
                       (
                        w492.cell? { block := b429, off := (0 : Nat) } = some (Value.int IntKind.i64 n495)) ∧
                       ∃ n496 : Int,
                       (
                        w492.cell? { block := b7, off := (0 : Nat) } = some (Value.int IntKind.i64 n496)) ∧
                       LetI (IntKind.i64.wrap (n496 + (1 : Int))) fun n497 =>
                       Br (n495 != n497)
                        (
                         R (Ending.returned (Value.bool false)) w492)
                        (
                         ∃ n498 : Int,
                         ∃ p499 : Option Addr,
                         ∃ k500 : Nat,
                         ∃ k501 : Nat,
                         ∃ n502 : Int,
                         (
                          Row w492 { block := b413, off := (0 : Nat) } (0 : Nat) [Value.int IntKind.i64 n498, Value.slice p499 k500 k501, Value.int IntKind.i64 n502]) ∧
                         Ca Try.prog (39 : Nat) #[Value.agg #[Value.int IntKind.i64 n498, Value.slice p499 k500 k501, Value.int IntKind.i64 n502], Value.int IntKind.i64 (IntKind.i64.wrap (↑(BitVec.ofInt (64 : Nat) n6 &&& BitVec.ofInt (64 : Nat) (7 : Int)).toNat : Int))] w492 fun e503 w504 =>
                         ∃ n505 : Int,
                         ∃ b506 : Bool,
                         (
                          e503 = Ending.returned (Value.tuple #[Value.int IntKind.i64 n505, Value.bool b506])) ∧
                         Br (!b506)
                          (
                           Ca Try.prog (26 : Nat) #[] w504 fun e507 w508 =>
                           ∃ b509 : Bool,
                           (
                            e507 = Ending.returned (Value.bool b509)) ∧
                           R (Ending.returned (Value.bool b509)) w508)
                          (
                           R (Ending.returned (Value.bool false)) w504)))))
                  (
                   ∃ n510 : Int,
                   ∃ p511 : Option Addr,
                   ∃ k512 : Nat,
                   ∃ k513 : Nat,
                   ∃ n514 : Int,
                   (
                    Row w431 { block := b413, off := (0 : Nat) } (0 : Nat) [Value.int IntKind.i64 n510, Value.slice p511 k512 k513, Value.int IntKind.i64 n514]) ∧
                   Ca Try.prog (39 : Nat) #[Value.agg #[Value.int IntKind.i64 n510, Value.slice p511 k512 k513, Value.int IntKind.i64 n514], Value.int IntKind.i64 (IntKind.i64.wrap (↑(BitVec.ofInt (64 : Nat) n6 &&& BitVec.ofInt (64 : Nat) (7 : Int)).toNat : Int))] w431 fun e515 w516 =>
                   ∃ n517 : Int,
                   ∃ b518 : Bool,
                   (
                    e515 = Ending.returned (Value.tuple #[Value.int IntKind.i64 n517, Value.bool b518])) ∧
                   Br (!b518)
                    (
                     Ca Try.prog (26 : Nat) #[] w516 fun e519 w520 =>
                     ∃ b521 : Bool,
                     (
                      e519 = Ending.returned (Value.bool b521)) ∧
                     R (Ending.returned (Value.bool b521)) w520)
                    (
                     R (Ending.returned (Value.bool false)) w516))))))))
      (
       ∃ p522 : Option Addr,
       ∃ k523 : Nat,
       ∃ k524 : Nat,
       (
        w46.cell? { block := b7, off := (1 : Nat) } = some (Value.slice p522 k523 k524)) ∧
       Br (n42 != (↑k523 : Int))
        (
         R (Ending.returned (Value.bool false)) w46)
        (
         ∃ n525 : Int,
         ∃ p526 : Option Addr,
         ∃ k527 : Nat,
         ∃ k528 : Nat,
         ∃ n529 : Int,
         (
          Row w46 { block := b7, off := (0 : Nat) } (0 : Nat) [Value.int IntKind.i64 n525, Value.slice p526 k527 k528, Value.int IntKind.i64 n529]) ∧
         Ca Try.prog (38 : Nat) #[Value.agg #[Value.int IntKind.i64 n525, Value.slice p526 k527 k528, Value.int IntKind.i64 n529]] w46 fun e530 w531 =>
         ∃ n532 : Int,
         (
          e530 = Ending.returned (Value.int IntKind.i64 n532)) ∧
         Br (n43 != n532)
          (
           R (Ending.returned (Value.bool false)) w531)
          (
           ∃ n533 : Int,
           ∃ p534 : Option Addr,
           ∃ k535 : Nat,
           ∃ k536 : Nat,
           ∃ n537 : Int,
           (
            Row w531 { block := b7, off := (0 : Nat) } (0 : Nat) [Value.int IntKind.i64 n533, Value.slice p534 k535 k536, Value.int IntKind.i64 n537]) ∧
           Ca Try.prog (27 : Nat) #[Value.agg #[Value.int IntKind.i64 n533, Value.slice p534 k535 k536, Value.int IntKind.i64 n537], Value.int IntKind.i64 (IntKind.i64.wrap (↑(BitVec.ofInt (64 : Nat) n6 &&& BitVec.ofInt (64 : Nat) (7 : Int)).toNat : Int))] w531 fun e538 w539 =>
           ∃ n540 : Int,
           ∃ p541 : Option Addr,
           ∃ k542 : Nat,
           ∃ k543 : Nat,
           ∃ n544 : Int,
           ∃ n545 : Int,
           (
            e538 = Ending.returned (Value.tuple #[Value.agg #[Value.int IntKind.i64 n540, Value.slice p541 k542 k543, Value.int IntKind.i64 n544], Value.int IntKind.i64 n545])) ∧
           LetA (Obj.cells #[Value.int IntKind.i64 (0 : Int), Value.slice none (0 : Nat) (0 : Nat), Value.int IntKind.i64 (0 : Int)] (37 : Nat)) w539 fun b546 w547 =>
           (
            WrRow w547 { block := b546, off := (0 : Nat) } (0 : Nat) [Value.int IntKind.i64 n540, Value.slice p541 k542 k543, Value.int IntKind.i64 n544]) ∧
           LetW (setRow w547 { block := b546, off := (0 : Nat) } (0 : Nat) [Value.int IntKind.i64 n540, Value.slice p541 k542 k543, Value.int IntKind.i64 n544]) fun w548 =>
           Br (n545 == (0 : Int))
            (
             ∃ n549 : Int,
             ∃ p550 : Option Addr,
             ∃ k551 : Nat,
             ∃ k552 : Nat,
             ∃ n553 : Int,
             (
              Row w548 { block := b546, off := (0 : Nat) } (0 : Nat) [Value.int IntKind.i64 n549, Value.slice p550 k551 k552, Value.int IntKind.i64 n553]) ∧
             Ca Try.prog (39 : Nat) #[Value.agg #[Value.int IntKind.i64 n549, Value.slice p550 k551 k552, Value.int IntKind.i64 n553], Value.int IntKind.i64 (IntKind.i64.wrap (↑(BitVec.ofInt (64 : Nat) n6 &&& BitVec.ofInt (64 : Nat) (7 : Int)).toNat : Int))] w548 fun e554 w555 =>
             ∃ n556 : Int,
             ∃ b557 : Bool,
             (
              e554 = Ending.returned (Value.tuple #[Value.int IntKind.i64 n556, Value.bool b557])) ∧
             ∃ n558 : Int,
             ∃ p559 : Option Addr,
             ∃ k560 : Nat,
             ∃ k561 : Nat,
             ∃ n562 : Int,
             (
              Row w555 { block := b546, off := (0 : Nat) } (0 : Nat) [Value.int IntKind.i64 n558, Value.slice p559 k560 k561, Value.int IntKind.i64 n562]) ∧
             Ca Try.prog (29 : Nat) #[Value.agg #[Value.int IntKind.i64 n558, Value.slice p559 k560 k561, Value.int IntKind.i64 n562], Value.int IntKind.i64 (IntKind.i64.wrap (↑(BitVec.ofInt (64 : Nat) n6 &&& BitVec.ofInt (64 : Nat) (7 : Int)).toNat : Int))] w555 fun e563 w564 =>
             ∃ n565 : Int,
             ∃ p566 : Option Addr,
             ∃ k567 : Nat,
             ∃ k568 : Nat,
             ∃ n569 : Int,
             ∃ n570 : Int,
             (
              e563 = Ending.returned (Value.tuple #[Value.agg #[Value.int IntKind.i64 n565, Value.slice p566 k567 k568, Value.int IntKind.i64 n569], Value.int IntKind.i64 n570])) ∧
             LetA (Obj.cells #[Value.int IntKind.i64 (0 : Int), Value.slice none (0 : Nat) (0 : Nat), Value.int IntKind.i64 (0 : Int)] (37 : Nat)) w564 fun b571 w572 =>
             (
              WrRow w572 { block := b571, off := (0 : Nat) } (0 : Nat) [Value.int IntKind.i64 n565, Value.slice p566 k567 k568, Value.int IntKind.i64 n569]) ∧
             LetW (setRow w572 { block := b571, off := (0 : Nat) } (0 : Nat) [Value.int IntKind.i64 n565, Value.slice p566 k567 k568, Value.int IntKind.i64 n569]) fun w573 =>
             ∃ n574 : Int,
             ∃ p575 : Option Addr,
             ∃ k576 : Nat,
             ∃ k577 : Nat,
             ∃ n578 : Int,
             (
              Row w573 { block := b546, off := (0 : Nat) } (0 : Nat) [Value.int IntKind.i64 n574, Value.slice p575 k576 k577, Value.int IntKind.i64 n578]) ∧
             Ca Try.prog (34 : Nat) #[Value.agg #[Value.int IntKind.i64 n574, Value.slice p575 k576 k577, Value.int IntKind.i64 n578]] w573 fun e579 w580 =>
             ∃ n581 : Int,
             (
              e579 = Ending.returned (Value.int IntKind.i64 n581)) ∧
             Br (n581 != (0 : Int))
              (
               R (Ending.returned (Value.bool false)) w580)
              (
               ∃ n582 : Int,
               (
                w580.cell? { block := b546, off := (0 : Nat) } = some (Value.int IntKind.i64 n582)) ∧
               ∃ n583 : Int,
               (
                w580.cell? { block := b7, off := (0 : Nat) } = some (Value.int IntKind.i64 n583)) ∧
               LetI (IntKind.i64.wrap (n583 + (1 : Int))) fun n584 =>
               Br (n582 != n584)
                (
                 R (Ending.returned (Value.bool false)) w580)
                (
                 ∃ n585 : Int,
                 ∃ p586 : Option Addr,
                 ∃ k587 : Nat,
                 ∃ k588 : Nat,
                 ∃ n589 : Int,
                 (
                  Row w580 { block := b546, off := (0 : Nat) } (0 : Nat) [Value.int IntKind.i64 n585, Value.slice p586 k587 k588, Value.int IntKind.i64 n589]) ∧
                 Ca Try.prog (38 : Nat) #[Value.agg #[Value.int IntKind.i64 n585, Value.slice p586 k587 k588, Value.int IntKind.i64 n589]] w580 fun e590 w591 =>
                 ∃ n592 : Int,
                 (
                  e590 = Ending.returned (Value.int IntKind.i64 n592)) ∧
                 Br (n592 != IntKind.i64.wrap (↑(BitVec.ofInt (64 : Nat) n6 &&& BitVec.ofInt (64 : Nat) (7 : Int)).toNat : Int))
                  (
                   R (Ending.returned (Value.bool false)) w591)
                  (
                   Br (!b557)
                    (
                     R (Ending.returned (Value.bool false)) w591)
                    (
                     ∃ n593 : Int,
                     (
                      w591.cell? { block := b546, off := (0 : Nat) } = some (Value.int IntKind.i64 n593)) ∧
                     Br (n556 != n593)
                      (
                       R (Ending.returned (Value.bool false)) w591)
                      (
                       ∃ n594 : Int,
                       (
                        w591.cell? { block := b7, off := (0 : Nat) } = some (Value.int IntKind.i64 n594)) ∧
                       (
                        Wr w591 { block := b571, off := (0 : Nat) }) ∧
                       LetW (w591.setCell { block := b571, off := (0 : Nat) } (Value.int IntKind.i64 n594)) fun w595 =>
                       ∃ n596 : Int,
                       (
                        w595.cell? { block := b546, off := (0 : Nat) } = some (Value.int IntKind.i64 n596)) ∧
                       Br (decide (n596 < (1099511627776 : Int)))
                        (
                         Br (n570 != (0 : Int))
                          (
                           R (Ending.returned (Value.bool false)) w595)
                          (
                           ∃ n597 : Int,
                           ∃ p598 : Option Addr,
                           ∃ k599 : Nat,
                           ∃ k600 : Nat,
                           ∃ n601 : Int,
                           (
                            Row w595 { block := b571, off := (0 : Nat) } (0 : Nat) [Value.int IntKind.i64 n597, Value.slice p598 k599 k600, Value.int IntKind.i64 n601]) ∧
                           ∃ n602 : Int,
                           ∃ p603 : Option Addr,
                           ∃ k604 : Nat,
                           ∃ k605 : Nat,
                           ∃ n606 : Int,
                           (
                            Row w595 { block := b7, off := (0 : Nat) } (0 : Nat) [Value.int IntKind.i64 n602, Value.slice p603 k604 k605, Value.int IntKind.i64 n606]) ∧
                           Ca Try.prog (40 : Nat) #[Value.agg #[Value.int IntKind.i64 n597, Value.slice p598 k599 k600, Value.int IntKind.i64 n601], Value.agg #[Value.int IntKind.i64 n602, Value.slice p603 k604 k605, Value.int IntKind.i64 n606]] w595 fun e607 w608 =>
                           ∃ b609 : Bool,
                           (
                            e607 = Ending.returned (Value.bool b609)) ∧
                           Br (!b609)
                            (
                             R (Ending.returned (Value.bool false)) w608)
                            (
                             ∃ n610 : Int,
                             ∃ p611 : Option Addr,
                             ∃ k612 : Nat,
                             ∃ k613 : Nat,
                             ∃ n614 : Int,
                             (
                              Row w608 { block := b7, off := (0 : Nat) } (0 : Nat) [Value.int IntKind.i64 n610, Value.slice p611 k612 k613, Value.int IntKind.i64 n614]) ∧
                             Ca Try.prog (29 : Nat) #[Value.agg #[Value.int IntKind.i64 n610, Value.slice p611 k612 k613, Value.int IntKind.i64 n614], Value.int IntKind.i64 (IntKind.i64.wrap (↑(BitVec.ofInt (64 : Nat) n6 &&& BitVec.ofInt (64 : Nat) (7 : Int)).toNat : Int))] w608 fun e615 w616 =>
                             ∃ n617 : Int,
                             ∃ p618 : Option Addr,
                             ∃ k619 : Nat,
                             ∃ k620 : Nat,
                             ∃ n621 : Int,
                             ∃ n622 : Int,
                             (
                              e615 = Ending.returned (Value.tuple #[Value.agg #[Value.int IntKind.i64 n617, Value.slice p618 k619 k620, Value.int IntKind.i64 n621], Value.int IntKind.i64 n622])) ∧
                             LetA (Obj.cells #[Value.int IntKind.i64 (0 : Int), Value.slice none (0 : Nat) (0 : Nat), Value.int IntKind.i64 (0 : Int)] (37 : Nat)) w616 fun b623 w624 =>
                             (
                              WrRow w624 { block := b623, off := (0 : Nat) } (0 : Nat) [Value.int IntKind.i64 n617, Value.slice p618 k619 k620, Value.int IntKind.i64 n621]) ∧
                             LetW (setRow w624 { block := b623, off := (0 : Nat) } (0 : Nat) [Value.int IntKind.i64 n617, Value.slice p618 k619 k620, Value.int IntKind.i64 n621]) fun w625 =>
                             ∃ n626 : Int,
                             ∃ p627 : Option Addr,
                             ∃ k628 : Nat,
                             ∃ k629 : Nat,
                             ∃ n630 : Int,
                             (
                              Row w625 { block := b7, off := (0 : Nat) } (0 : Nat) [Value.int IntKind.i64 n626, Value.slice p627 k628 k629, Value.int IntKind.i64 n630]) ∧
                             Ca Try.prog (31 : Nat) #[Value.agg #[Value.int IntKind.i64 n626, Value.slice p627 k628 k629, Value.int IntKind.i64 n630], Value.int IntKind.i64 (IntKind.i64.wrap (↑(BitVec.ofInt (64 : Nat) n6 &&& BitVec.ofInt (64 : Nat) (7 : Int)).toNat : Int))] w625 fun e631 w632 =>
                             ∃ n633 : Int,
                             ∃ p634 : Option Addr,
                             ∃ k635 : Nat,
                             ∃ k636 : Nat,
                             ∃ n637 : Int,
                             ∃ n638 : Int,
                             (
                              e631 = Ending.returned (Value.tuple #[Value.agg #[Value.int IntKind.i64 n633, Value.slice p634 k635 k636, Value.int IntKind.i64 n637], Value.int IntKind.i64 n638])) ∧
                             LetA (Obj.cells #[Value.int IntKind.i64 (0 : Int), Value.slice none (0 : Nat) (0 : Nat), Value.int IntKind.i64 (0 : Int)] (37 : Nat)) w632 fun b639 w640 =>
                             (
                              WrRow w640 { block := b639, off := (0 : Nat) } (0 : Nat) [Value.int IntKind.i64 n633, Value.slice p634 k635 k636, Value.int IntKind.i64 n637]) ∧
                             LetW (setRow w640 { block := b639, off := (0 : Nat) } (0 : Nat) [Value.int IntKind.i64 n633, Value.slice p634 k635 k636, Value.int IntKind.i64 n637]) fun w641 =>
                             Br (n622 == (0 : Int))
                              (
                               ∃ n642 : Int,
                               ∃ p643 : Option Addr,
                               ∃ k644 : Nat,
                               ∃ k645 : Nat,
                               ∃ n646 : Int,
                               (
                                Row w641 { block := b623, off := (0 : Nat) } (0 : Nat) [Value.int IntKind.i64 n642, Value.slice p643 k644 k645, Value.int IntKind.i64 n646]) ∧
                               Ca Try.prog (34 : Nat) #[Value.agg #[Value.int IntKind.i64 n642, Value.slice p643 k644 k645, Value.int IntKind.i64 n646]] w641 fun e647 w648 =>
                               ∃ n649 : Int,
                               (
                                e647 = Ending.returned (Value.int IntKind.i64 n649)) ∧
                               Br (n649 != (0 : Int))
                                (
                                 R (Ending.returned (Value.bool false)) w648)
                                (
                                 ∃ n650 : Int,
                                 (
                                  w648.cell? { block := b623, off := (0 : Nat) } = some (Value.int IntKind.i64 n650)) ∧
                                 ∃ n651 : Int,
                                 (
                                  w648.cell? { block := b7, off := (0 : Nat) } = some (Value.int IntKind.i64 n651)) ∧
                                 LetI (IntKind.i64.wrap (n651 + (1 : Int))) fun n652 =>
                                 Br (n650 != n652)
                                  (
                                   R (Ending.returned (Value.bool false)) w648)
                                  (
                                   ∃ p653 : Option Addr,
                                   ∃ k654 : Nat,
                                   ∃ k655 : Nat,
                                   (
                                    w648.cell? { block := b623, off := (1 : Nat) } = some (Value.slice p653 k654 k655)) ∧
                                   ∃ p656 : Option Addr,
                                   ∃ k657 : Nat,
                                   ∃ k658 : Nat,
                                   (
                                    w648.cell? { block := b7, off := (1 : Nat) } = some (Value.slice p656 k657 k658)) ∧
                                   LetI (IntKind.i64.wrap ((↑k657 : Int) - (1 : Int))) fun n659 =>
                                   Br ((↑k654 : Int) != n659)
                                    (
                                     R (Ending.returned (Value.bool false)) w648)
                                    (
                                     Br (n638 == (0 : Int))
                                      (
                                       ∃ n660 : Int,
                                       ∃ p661 : Option Addr,
                                       ∃ k662 : Nat,
                                       ∃ k663 : Nat,
                                       ∃ n664 : Int,
                                       (
                                        Row w648 { block := b639, off := (0 : Nat) } (0 : Nat) [Value.int IntKind.i64 n660, Value.slice p661 k662 k663, Value.int IntKind.i64 n664]) ∧
                                       Ca Try.prog (34 : Nat) #[Value.agg #[Value.int IntKind.i64 n660, Value.slice p661 k662 k663, Value.int IntKind.i64 n664]] w648 fun e665 w666 =>
                                       ∃ n667 : Int,
                                       (
                                        e665 = Ending.returned (Value.int IntKind.i64 n667)) ∧
                                       Br (n667 != (0 : Int))
                                        (
                                         R (Ending.returned (Value.bool false)) w666)
                                        (
                                         ∃ n668 : Int,
                                         (
                                          w666.cell? { block := b639, off := (2 : Nat) } = some (Value.int IntKind.i64 n668)) ∧
                                         Br (n668 != IntKind.i64.wrap (↑(BitVec.ofInt (64 : Nat) n6 &&& BitVec.ofInt (64 : Nat) (7 : Int)).toNat : Int))
                                          (
                                           R (Ending.returned (Value.bool false)) w666)
                                          (
                                           ∃ n669 : Int,
                                           (
                                            w666.cell? { block := b639, off := (0 : Nat) } = some (Value.int IntKind.i64 n669)) ∧
                                           ∃ n670 : Int,
                                           (
                                            w666.cell? { block := b7, off := (0 : Nat) } = some (Value.int IntKind.i64 n670)) ∧
                                           LetI (IntKind.i64.wrap (n670 + (1 : Int))) fun n671 =>
                                           Br (n669 != n671)
                                            (
                                             R (Ending.returned (Value.bool false)) w666)
                                            (
                                             ∃ n672 : Int,
                                             ∃ p673 : Option Addr,
                                             ∃ k674 : Nat,
                                             ∃ k675 : Nat,
                                             ∃ n676 : Int,
                                             (
                                              Row w666 { block := b623, off := (0 : Nat) } (0 : Nat) [Value.int IntKind.i64 n672, Value.slice p673 k674 k675, Value.int IntKind.i64 n676]) ∧
                                             Ca Try.prog (39 : Nat) #[Value.agg #[Value.int IntKind.i64 n672, Value.slice p673 k674 k675, Value.int IntKind.i64 n676], Value.int IntKind.i64 (IntKind.i64.wrap (↑(BitVec.ofInt (64 : Nat) n6 &&& BitVec.ofInt (64 : Nat) (7 : Int)).toNat : Int))] w666 fun e677 w678 =>
                                             ∃ n679 : Int,
                                             ∃ b680 : Bool,
                                             (
                                              e677 = Ending.returned (Value.tuple #[Value.int IntKind.i64 n679, Value.bool b680])) ∧
                                             Br (!b680)
                                              (
                                               Ca Try.prog (26 : Nat) #[] w678 fun e681 w682 =>
                                               ∃ b683 : Bool,
                                               (
                                                e681 = Ending.returned (Value.bool b683)) ∧
                                               R (Ending.returned (Value.bool b683)) w682)
                                              (
                                               R (Ending.returned (Value.bool false)) w678)))))
                                      (
                                       ∃ n684 : Int,
                                       ∃ p685 : Option Addr,
                                       ∃ k686 : Nat,
                                       ∃ k687 : Nat,
                                       ∃ n688 : Int,
                                       (
                                        Row w648 { block := b623, off := (0 : Nat) } (0 : Nat) [Value.int IntKind.i64 n684, Value.slice p685 k686 k687, Value.int IntKind.i64 n688]) ∧
                                       Ca Try.prog (39 : Nat) #[Value.agg #[Value.int IntKind.i64 n684, Value.slice p685 k686 k687, Value.int IntKind.i64 n688], Value.int IntKind.i64 (IntKind.i64.wrap (↑(BitVec.ofInt (64 : Nat) n6 &&& BitVec.ofInt (64 : Nat) (7 : Int)).toNat : Int))] w648 fun e689 w690 =>
                                       ∃ n691 : Int,
                                       ∃ b692 : Bool,
                                       (
                                        e689 = Ending.returned (Value.tuple #[Value.int IntKind.i64 n691, Value.bool b692])) ∧
                                       Br (!b692)
                                        (
                                         Ca Try.prog (26 : Nat) #[] w690 fun e693 w694 =>
                                         ∃ b695 : Bool,
                                         (
                                          e693 = Ending.returned (Value.bool b695)) ∧
                                         R (Ending.returned (Value.bool b695)) w694)
                                        (
                                         R (Ending.returned (Value.bool false)) w690))))))
                              (
                               Br (n638 == (0 : Int))
                                (
                                 ∃ n696 : Int,
                                 ∃ p697 : Option Addr,
                                 ∃ k698 : Nat,
                                 ∃ k699 : Nat,
                                 ∃ n700 : Int,
                                 (
                                  Row w641 { block := b639, off := (0 : Nat) } (0 : Nat) [Value.int IntKind.i64 n696, Value.slice p697 k698 k699, Value.int IntKind.i64 n700]) ∧
                                 Ca Try.prog (34 : Nat) #[Value.agg #[Value.int IntKind.i64 n696, Value.slice p697 k698 k699, Value.int IntKind.i64 n700]] w641 fun e701 w702 =>
                                 ∃ n703 : Int,
                                 (
                                  e701 = Ending.returned (Value.int IntKind.i64 n703)) ∧
                                 Br (n703 != (0 : Int))
                                  (
                                   R (Ending.returned (Value.bool false)) w702)
                                  (
                                   ∃ n704 : Int,
                                   (
                                    w702.cell? { block := b639, off := (2 : Nat) } = some (Value.int IntKind.i64 n704)) ∧
                                   Br (n704 != IntKind.i64.wrap (↑(BitVec.ofInt (64 : Nat) n6 &&& BitVec.ofInt (64 : Nat) (7 : Int)).toNat : Int))
                                    (
                                     R (Ending.returned (Value.bool false)) w702)
                                    (
                                     ∃ n705 : Int,
                                     (
                                      w702.cell? { block := b639, off := (0 : Nat) } = some (Value.int IntKind.i64 n705)) ∧
                                     ∃ n706 : Int,
                                     (
                                      w702.cell? { block := b7, off := (0 : Nat) } = some (Value.int IntKind.i64 n706)) ∧
                                     LetI (IntKind.i64.wrap (n706 + (1 : Int))) fun n707 =>
                                     Br (n705 != n707)
                                      (
                                       R (Ending.returned (Value.bool false)) w702)
                                      (
                                       ∃ n708 : Int,
                                       ∃ p709 : Option Addr,
                                       ∃ k710 : Nat,
                                       ∃ k711 : Nat,
                                       ∃ n712 : Int,
                                       (
                                        Row w702 { block := b623, off := (0 : Nat) } (0 : Nat) [Value.int IntKind.i64 n708, Value.slice p709 k710 k711, Value.int IntKind.i64 n712]) ∧
                                       Ca Try.prog (39 : Nat) #[Value.agg #[Value.int IntKind.i64 n708, Value.slice p709 k710 k711, Value.int IntKind.i64 n712], Value.int IntKind.i64 (IntKind.i64.wrap (↑(BitVec.ofInt (64 : Nat) n6 &&& BitVec.ofInt (64 : Nat) (7 : Int)).toNat : Int))] w702 fun e713 w714 =>
                                       ∃ n715 : Int,
                                       ∃ b716 : Bool,
                                       (
                                        e713 = Ending.returned (Value.tuple #[Value.int IntKind.i64 n715, Value.bool b716])) ∧
                                       Br (!b716)
                                        (
                                         Ca Try.prog (26 : Nat) #[] w714 fun e717 w718 =>
                                         ∃ b719 : Bool,
                                         (
                                          e717 = Ending.returned (Value.bool b719)) ∧
                                         R (Ending.returned (Value.bool b719)) w718)
                                        (
                                         R (Ending.returned (Value.bool false)) w714)))))
                                (
                                 ∃ n720 : Int,
                                 ∃ p721 : Option Addr,
                                 ∃ k722 : Nat,
                                 ∃ k723 : Nat,
                                 ∃ n724 : Int,
                                 (
                                  Row w641 { block := b623, off := (0 : Nat) } (0 : Nat) [Value.int IntKind.i64 n720, Value.slice p721 k722 k723, Value.int IntKind.i64 n724]) ∧
                                 Ca Try.prog (39 : Nat) #[Value.agg #[Value.int IntKind.i64 n720, Value.slice p721 k722 k723, Value.int IntKind.i64 n724], Value.int IntKind.i64 (IntKind.i64.wrap (↑(BitVec.ofInt (64 : Nat) n6 &&& BitVec.ofInt (64 : Nat) (7 : Int)).toNat : Int))] w641 fun e725 w726 =>
                                 ∃ n727 : Int,
                                 ∃ b728 : Bool,
                                 (
                                  e725 = Ending.returned (Value.tuple #[Value.int IntKind.i64 n727, Value.bool b728])) ∧
                                 Br (!b728)
                                  (
                                   Ca Try.prog (26 : Nat) #[] w726 fun e729 w730 =>
                                   ∃ b731 : Bool,
                                   (
                                    e729 = Ending.returned (Value.bool b731)) ∧
                                   R (Ending.returned (Value.bool b731)) w730)
                                  (
                                   R (Ending.returned (Value.bool false)) w726))))))
                        (
                         ∃ n732 : Int,
                         ∃ p733 : Option Addr,
                         ∃ k734 : Nat,
                         ∃ k735 : Nat,
                         ∃ n736 : Int,
                         (
                          Row w595 { block := b7, off := (0 : Nat) } (0 : Nat) [Value.int IntKind.i64 n732, Value.slice p733 k734 k735, Value.int IntKind.i64 n736]) ∧
                         Ca Try.prog (29 : Nat) #[Value.agg #[Value.int IntKind.i64 n732, Value.slice p733 k734 k735, Value.int IntKind.i64 n736], Value.int IntKind.i64 (IntKind.i64.wrap (↑(BitVec.ofInt (64 : Nat) n6 &&& BitVec.ofInt (64 : Nat) (7 : Int)).toNat : Int))] w595 fun e737 w738 =>
                         ∃ n739 : Int,
                         ∃ p740 : Option Addr,
                         ∃ k741 : Nat,
                         ∃ k742 : Nat,
                         ∃ n743 : Int,
                         ∃ n744 : Int,
                         (
                          e737 = Ending.returned (Value.tuple #[Value.agg #[Value.int IntKind.i64 n739, Value.slice p740 k741 k742, Value.int IntKind.i64 n743], Value.int IntKind.i64 n744])) ∧
                         LetA (Obj.cells #[Value.int IntKind.i64 (0 : Int), Value.slice none (0 : Nat) (0 : Nat), Value.int IntKind.i64 (0 : Int)] (37 : Nat)) w738 fun b745 w746 =>
                         (
                          WrRow w746 { block := b745, off := (0 : Nat) } (0 : Nat) [Value.int IntKind.i64 n739, Value.slice p740 k741 k742, Value.int IntKind.i64 n743]) ∧
                         LetW (setRow w746 { block := b745, off := (0 : Nat) } (0 : Nat) [Value.int IntKind.i64 n739, Value.slice p740 k741 k742, Value.int IntKind.i64 n743]) fun w747 =>
                         ∃ n748 : Int,
                         ∃ p749 : Option Addr,
                         ∃ k750 : Nat,
                         ∃ k751 : Nat,
                         ∃ n752 : Int,
                         (
                          Row w747 { block := b7, off := (0 : Nat) } (0 : Nat) [Value.int IntKind.i64 n748, Value.slice p749 k750 k751, Value.int IntKind.i64 n752]) ∧
                         Ca Try.prog (31 : Nat) #[Value.agg #[Value.int IntKind.i64 n748, Value.slice p749 k750 k751, Value.int IntKind.i64 n752], Value.int IntKind.i64 (IntKind.i64.wrap (↑(BitVec.ofInt (64 : Nat) n6 &&& BitVec.ofInt (64 : Nat) (7 : Int)).toNat : Int))] w747 fun e753 w754 =>
                         ∃ n755 : Int,
                         ∃ p756 : Option Addr,
                         ∃ k757 : Nat,
                         ∃ k758 : Nat,
                         ∃ n759 : Int,
                         ∃ n760 : Int,
                         (
                          e753 = Ending.returned (Value.tuple #[Value.agg #[Value.int IntKind.i64 n755, Value.slice p756 k757 k758, Value.int IntKind.i64 n759], Value.int IntKind.i64 n760])) ∧
                         LetA (Obj.cells #[Value.int IntKind.i64 (0 : Int), Value.slice none (0 : Nat) (0 : Nat), Value.int IntKind.i64 (0 : Int)] (37 : Nat)) w754 fun b761 w762 =>
                         (
                          WrRow w762 { block := b761, off := (0 : Nat) } (0 : Nat) [Value.int IntKind.i64 n755, Value.slice p756 k757 k758, Value.int IntKind.i64 n759]) ∧
                         LetW (setRow w762 { block := b761, off := (0 : Nat) } (0 : Nat) [Value.int IntKind.i64 n755, Value.slice p756 k757 k758, Value.int IntKind.i64 n759]) fun w763 =>
                         Br (n744 == (0 : Int))
                          (
                           ∃ n764 : Int,
                           ∃ p765 : Option Addr,
                           ∃ k766 : Nat,
                           ∃ k767 : Nat,
                           ∃ n768 : Int,
                           (
                            Row w763 { block := b745, off := (0 : Nat) } (0 : Nat) [Value.int IntKind.i64 n764, Value.slice p765 k766 k767, Value.int IntKind.i64 n768]) ∧
                           Ca Try.prog (34 : Nat) #[Value.agg #[Value.int IntKind.i64 n764, Value.slice p765 k766 k767, Value.int IntKind.i64 n768]] w763 fun e769 w770 =>
                           ∃ n771 : Int,
                           (
                            e769 = Ending.returned (Value.int IntKind.i64 n771)) ∧
                           Br (n771 != (0 : Int))
                            (
                             R (Ending.returned (Value.bool false)) w770)
                            (
                             ∃ n772 : Int,
                             (
                              w770.cell? { block := b745, off := (0 : Nat) } = some (Value.int IntKind.i64 n772)) ∧
                             ∃ n773 : Int,
                             (
                              w770.cell? { block := b7, off := (0 : Nat) } = some (Value.int IntKind.i64 n773)) ∧
                             LetI (IntKind.i64.wrap (n773 + (1 : Int))) fun n774 =>
                             Br (n772 != n774)
                              (
                               R (Ending.returned (Value.bool false)) w770)
                              (
                               ∃ p775 : Option Addr,
                               ∃ k776 : Nat,
                               ∃ k777 : Nat,
                               (
                                w770.cell? { block := b745, off := (1 : Nat) } = some (Value.slice p775 k776 k777)) ∧
                               ∃ p778 : Option Addr,
                               ∃ k779 : Nat,
                               ∃ k780 : Nat,
                               (
                                w770.cell? { block := b7, off := (1 : Nat) } = some (Value.slice p778 k779 k780)) ∧
                               LetI (IntKind.i64.wrap ((↑k779 : Int) - (1 : Int))) fun n781 =>
                               Br ((↑k776 : Int) != n781)
                                (
                                 R (Ending.returned (Value.bool false)) w770)
                                (
                                 Br (n760 == (0 : Int))
                                  (
                                   ∃ n782 : Int,
                                   ∃ p783 : Option Addr,
                                   ∃ k784 : Nat,
                                   ∃ k785 : Nat,
                                   ∃ n786 : Int,
                                   (
                                    Row w770 { block := b761, off := (0 : Nat) } (0 : Nat) [Value.int IntKind.i64 n782, Value.slice p783 k784 k785, Value.int IntKind.i64 n786]) ∧
                                   Ca Try.prog (34 : Nat) #[Value.agg #[Value.int IntKind.i64 n782, Value.slice p783 k784 k785, Value.int IntKind.i64 n786]] w770 fun e787 w788 =>
                                   ∃ n789 : Int,
                                   (
                                    e787 = Ending.returned (Value.int IntKind.i64 n789)) ∧
                                   Br (n789 != (0 : Int))
                                    (
                                     R (Ending.returned (Value.bool false)) w788)
                                    (
                                     ∃ n790 : Int,
                                     (
                                      w788.cell? { block := b761, off := (2 : Nat) } = some (Value.int IntKind.i64 n790)) ∧
                                     Br (n790 != IntKind.i64.wrap (↑(BitVec.ofInt (64 : Nat) n6 &&& BitVec.ofInt (64 : Nat) (7 : Int)).toNat : Int))
                                      (
                                       R (Ending.returned (Value.bool false)) w788)
                                      (
                                       ∃ n791 : Int,
                                       (
                                        w788.cell? { block := b761, off := (0 : Nat) } = some (Value.int IntKind.i64 n791)) ∧
                                       ∃ n792 : Int,
                                       (
                                        w788.cell? { block := b7, off := (0 : Nat) } = some (Value.int IntKind.i64 n792)) ∧
                                       LetI (IntKind.i64.wrap (n792 + (1 : Int))) fun n793 =>
                                       Br (n791 != n793)
                                        (
                                         R (Ending.returned (Value.bool false)) w788)
                                        (
                                         ∃ n794 : Int,
                                         ∃ p795 : Option Addr,
                                         ∃ k796 : Nat,
                                         ∃ k797 : Nat,
                                         ∃ n798 : Int,
                                         (
                                          Row w788 { block := b745, off := (0 : Nat) } (0 : Nat) [Value.int IntKind.i64 n794, Value.slice p795 k796 k797, Value.int IntKind.i64 n798]) ∧
                                         Ca Try.prog (39 : Nat) #[Value.agg #[Value.int IntKind.i64 n794, Value.slice p795 k796 k797, Value.int IntKind.i64 n798], Value.int IntKind.i64 (IntKind.i64.wrap (↑(BitVec.ofInt (64 : Nat) n6 &&& BitVec.ofInt (64 : Nat) (7 : Int)).toNat : Int))] w788 fun e799 w800 =>
                                         ∃ n801 : Int,
                                         ∃ b802 : Bool,
                                         (
                                          e799 = Ending.returned (Value.tuple #[Value.int IntKind.i64 n801, Value.bool b802])) ∧
                                         Br (!b802)
                                          (
                                           Ca Try.prog (26 : Nat) #[] w800 fun e803 w804 =>
                                           ∃ b805 : Bool,
                                           (
                                            e803 = Ending.returned (Value.bool b805)) ∧
                                           R (Ending.returned (Value.bool b805)) w804)
                                          (
                                           R (Ending.returned (Value.bool false)) w800)))))
                                  (
                                   ∃ n806 : Int,
                                   ∃ p807 : Option Addr,
                                   ∃ k808 : Nat,
                                   ∃ k809 : Nat,
                                   ∃ n810 : Int,
                                   (
                                    Row w770 { block := b745, off := (0 : Nat) } (0 : Nat) [Value.int IntKind.i64 n806, Value.slice p807 k808 k809, Value.int IntKind.i64 n810]) ∧
                                   Ca Try.prog (39 : Nat) #[Value.agg #[Value.int IntKind.i64 n806, Value.slice p807 k808 k809, Value.int IntKind.i64 n810], Value.int IntKind.i64 (IntKind.i64.wrap (↑(BitVec.ofInt (64 : Nat) n6 &&& BitVec.ofInt (64 : Nat) (7 : Int)).toNat : Int))] w770 fun e811 w812 =>
                                   ∃ n813 : Int,
                                   ∃ b814 : Bool,
                                   (
                                    e811 = Ending.returned (Value.tuple #[Value.int IntKind.i64 n813, Value.bool b814])) ∧
                                   Br (!b814)
                                    (
                                     Ca Try.prog (26 : Nat) #[] w812 fun e815 w816 =>
                                     ∃ b817 : Bool,
                                     (
                                      e815 = Ending.returned (Value.bool b817)) ∧
                                     R (Ending.returned (Value.bool b817)) w816)
                                    (
                                     R (Ending.returned (Value.bool false)) w812))))))
                          (
                           Br (n760 == (0 : Int))
                            (
                             ∃ n818 : Int,
                             ∃ p819 : Option Addr,
                             ∃ k820 : Nat,
                             ∃ k821 : Nat,
                             ∃ n822 : Int,
                             (
                              Row w763 { block := b761, off := (0 : Nat) } (0 : Nat) [Value.int IntKind.i64 n818, Value.slice p819 k820 k821, Value.int IntKind.i64 n822]) ∧
                             Ca Try.prog (34 : Nat) #[Value.agg #[Value.int IntKind.i64 n818, Value.slice p819 k820 k821, Value.int IntKind.i64 n822]] w763 fun e823 w824 =>
                             ∃ n825 : Int,
                             (
                              e823 = Ending.returned (Value.int IntKind.i64 n825)) ∧
                             Br (n825 != (0 : Int))
                              (
                               R (Ending.returned (Value.bool false)) w824)
                              (
                               ∃ n826 : Int,
                               (
                                w824.cell? { block := b761, off := (2 : Nat) } = some (Value.int IntKind.i64 n826)) ∧
                               Br (n826 != IntKind.i64.wrap (↑(BitVec.ofInt (64 : Nat) n6 &&& BitVec.ofInt (64 : Nat) (7 : Int)).toNat : Int))
                                (
                                 R (Ending.returned (Value.bool false)) w824)
                                (
                                 ∃ n827 : Int,
                                 (
                                  w824.cell? { block := b761, off := (0 : Nat) } = some (Value.int IntKind.i64 n827)) ∧
                                 ∃ n828 : Int,
                                 (
                                  w824.cell? { block := b7, off := (0 : Nat) } = some (Value.int IntKind.i64 n828)) ∧
                                 LetI (IntKind.i64.wrap (n828 + (1 : Int))) fun n829 =>
                                 Br (n827 != n829)
                                  (
                                   R (Ending.returned (Value.bool false)) w824)
                                  (
                                   ∃ n830 : Int,
                                   ∃ p831 : Option Addr,
                                   ∃ k832 : Nat,
                                   ∃ k833 : Nat,
                                   ∃ n834 : Int,
                                   (
                                    Row w824 { block := b745, off := (0 : Nat) } (0 : Nat) [Value.int IntKind.i64 n830, Value.slice p831 k832 k833, Value.int IntKind.i64 n834]) ∧
                                   Ca Try.prog (39 : Nat) #[Value.agg #[Value.int IntKind.i64 n830, Value.slice p831 k832 k833, Value.int IntKind.i64 n834], Value.int IntKind.i64 (IntKind.i64.wrap (↑(BitVec.ofInt (64 : Nat) n6 &&& BitVec.ofInt (64 : Nat) (7 : Int)).toNat : Int))] w824 fun e835 w836 =>
                                   ∃ n837 : Int,
                                   ∃ b838 : Bool,
                                   (
                                    e835 = Ending.returned (Value.tuple #[Value.int IntKind.i64 n837, Value.bool b838])) ∧
                                   Br (!b838)
                                    (
                                     Ca Try.prog (26 : Nat) #[] w836 fun e839 w840 =>
                                     ∃ b841 : Bool,
                                     (
                                      e839 = Ending.returned (Value.bool b841)) ∧
                                     R (Ending.returned (Value.bool b841)) w840)
                                    (
                                     R (Ending.returned (Value.bool false)) w836)))))
                            (
                             ∃ n842 : Int,
                             ∃ p843 : Option Addr,
                             ∃ k844 : Nat,
                             ∃ k845 : Nat,
                             ∃ n846 : Int,
                             (
                              Row w763 { block := b745, off := (0 : Nat) } (0 : Nat) [Value.int IntKind.i64 n842, Value.slice p843 k844 k845, Value.int IntKind.i64 n846]) ∧
                             Ca Try.prog (39 : Nat) #[Value.agg #[Value.int IntKind.i64 n842, Value.slice p843 k844 k845, Value.int IntKind.i64 n846], Value.int IntKind.i64 (IntKind.i64.wrap (↑(BitVec.ofInt (64 : Nat) n6 &&& BitVec.ofInt (64 : Nat) (7 : Int)).toNat : Int))] w763 fun e847 w848 =>
                             ∃ n849 : Int,
                             ∃ b850 : Bool,
                             (
                              e847 = Ending.returned (Value.tuple #[Value.int IntKind.i64 n849, Value.bool b850])) ∧
                             Br (!b850)
                              (
                               Ca Try.prog (26 : Nat) #[] w848 fun e851 w852 =>
                               ∃ b853 : Bool,
                               (
                                e851 = Ending.returned (Value.bool b853)) ∧
                               R (Ending.returned (Value.bool b853)) w852)
                              (
                               R (Ending.returned (Value.bool false)) w848))))))))))
            (
             ∃ n854 : Int,
             ∃ p855 : Option Addr,
             ∃ k856 : Nat,
             ∃ k857 : Nat,
             ∃ n858 : Int,
             (
              Row w548 { block := b7, off := (0 : Nat) } (0 : Nat) [Value.int IntKind.i64 n854, Value.slice p855 k856 k857, Value.int IntKind.i64 n858]) ∧
             Ca Try.prog (29 : Nat) #[Value.agg #[Value.int IntKind.i64 n854, Value.slice p855 k856 k857, Value.int IntKind.i64 n858], Value.int IntKind.i64 (IntKind.i64.wrap (↑(BitVec.ofInt (64 : Nat) n6 &&& BitVec.ofInt (64 : Nat) (7 : Int)).toNat : Int))] w548 fun e859 w860 =>
             ∃ n861 : Int,
             ∃ p862 : Option Addr,
             ∃ k863 : Nat,
             ∃ k864 : Nat,
             ∃ n865 : Int,
             ∃ n866 : Int,
             (
              e859 = Ending.returned (Value.tuple #[Value.agg #[Value.int IntKind.i64 n861, Value.slice p862 k863 k864, Value.int IntKind.i64 n865], Value.int IntKind.i64 n866])) ∧
             LetA (Obj.cells #[Value.int IntKind.i64 (0 : Int), Value.slice none (0 : Nat) (0 : Nat), Value.int IntKind.i64 (0 : Int)] (37 : Nat)) w860 fun b867 w868 =>
             (
              WrRow w868 { block := b867, off := (0 : Nat) } (0 : Nat) [Value.int IntKind.i64 n861, Value.slice p862 k863 k864, Value.int IntKind.i64 n865]) ∧
             LetW (setRow w868 { block := b867, off := (0 : Nat) } (0 : Nat) [Value.int IntKind.i64 n861, Value.slice p862 k863 k864, Value.int IntKind.i64 n865]) fun w869 =>
             ∃ n870 : Int,
             ∃ p871 : Option Addr,
             ∃ k872 : Nat,
             ∃ k873 : Nat,
             ∃ n874 : Int,
             (
              Row w869 { block := b7, off := (0 : Nat) } (0 : Nat) [Value.int IntKind.i64 n870, Value.slice p871 k872 k873, Value.int IntKind.i64 n874]) ∧
             Ca Try.prog (31 : Nat) #[Value.agg #[Value.int IntKind.i64 n870, Value.slice p871 k872 k873, Value.int IntKind.i64 n874], Value.int IntKind.i64 (IntKind.i64.wrap (↑(BitVec.ofInt (64 : Nat) n6 &&& BitVec.ofInt (64 : Nat) (7 : Int)).toNat : Int))] w869 fun e875 w876 =>
             ∃ n877 : Int,
             ∃ p878 : Option Addr,
             ∃ k879 : Nat,
             ∃ k880 : Nat,
             ∃ n881 : Int,
             ∃ n882 : Int,
             (
              e875 = Ending.returned (Value.tuple #[Value.agg #[Value.int IntKind.i64 n877, Value.slice p878 k879 k880, Value.int IntKind.i64 n881], Value.int IntKind.i64 n882])) ∧
             LetA (Obj.cells #[Value.int IntKind.i64 (0 : Int), Value.slice none (0 : Nat) (0 : Nat), Value.int IntKind.i64 (0 : Int)] (37 : Nat)) w876 fun b883 w884 =>
             (
              WrRow w884 { block := b883, off := (0 : Nat) } (0 : Nat) [Value.int IntKind.i64 n877, Value.slice p878 k879 k880, Value.int IntKind.i64 n881]) ∧
             LetW (setRow w884 { block := b883, off := (0 : Nat) } (0 : Nat) [Value.int IntKind.i64 n877, Value.slice p878 k879 k880, Value.int IntKind.i64 n881]) fun w885 =>
             Br (n866 == (0 : Int))
              (
               ∃ n886 : Int,
               ∃ p887 : Option Addr,
               ∃ k888 : Nat,
               ∃ k889 : Nat,
               ∃ n890 : Int,
               (
                Row w885 { block := b867, off := (0 : Nat) } (0 : Nat) [Value.int IntKind.i64 n886, Value.slice p887 k888 k889, Value.int IntKind.i64 n890]) ∧
               Ca Try.prog (34 : Nat) #[Value.agg #[Value.int IntKind.i64 n886, Value.slice p887 k888 k889, Value.int IntKind.i64 n890]] w885 fun e891 w892 =>
               ∃ n893 : Int,
               (
                e891 = Ending.returned (Value.int IntKind.i64 n893)) ∧
               Br (n893 != (0 : Int))
                (
                 R (Ending.returned (Value.bool false)) w892)
                (
                 ∃ n894 : Int,
                 (
                  w892.cell? { block := b867, off := (0 : Nat) } = some (Value.int IntKind.i64 n894)) ∧
                 ∃ n895 : Int,
                 (
                  w892.cell? { block := b7, off := (0 : Nat) } = some (Value.int IntKind.i64 n895)) ∧
                 LetI (IntKind.i64.wrap (n895 + (1 : Int))) fun n896 =>
                 Br (n894 != n896)
                  (
                   R (Ending.returned (Value.bool false)) w892)
                  (
                   ∃ p897 : Option Addr,
                   ∃ k898 : Nat,
                   ∃ k899 : Nat,
                   (
                    w892.cell? { block := b867, off := (1 : Nat) } = some (Value.slice p897 k898 k899)) ∧
                   ∃ p900 : Option Addr,
                   ∃ k901 : Nat,
                   ∃ k902 : Nat,
                   (
                    w892.cell? { block := b7, off := (1 : Nat) } = some (Value.slice p900 k901 k902)) ∧
                   LetI (IntKind.i64.wrap ((↑k901 : Int) - (1 : Int))) fun n903 =>
                   Br ((↑k898 : Int) != n903)
                    (
                     R (Ending.returned (Value.bool false)) w892)
                    (
                     Br (n882 == (0 : Int))
                      (
                       ∃ n904 : Int,
                       ∃ p905 : Option Addr,
                       ∃ k906 : Nat,
                       ∃ k907 : Nat,
                       ∃ n908 : Int,
                       (
                        Row w892 { block := b883, off := (0 : Nat) } (0 : Nat) [Value.int IntKind.i64 n904, Value.slice p905 k906 k907, Value.int IntKind.i64 n908]) ∧
                       Ca Try.prog (34 : Nat) #[Value.agg #[Value.int IntKind.i64 n904, Value.slice p905 k906 k907, Value.int IntKind.i64 n908]] w892 fun e909 w910 =>
                       ∃ n911 : Int,
                       (
                        e909 = Ending.returned (Value.int IntKind.i64 n911)) ∧
                       Br (n911 != (0 : Int))
                        (
                         R (Ending.returned (Value.bool false)) w910)
                        (
                         ∃ n912 : Int,
                         (
                          w910.cell? { block := b883, off := (2 : Nat) } = some (Value.int IntKind.i64 n912)) ∧
                         Br (n912 != IntKind.i64.wrap (↑(BitVec.ofInt (64 : Nat) n6 &&& BitVec.ofInt (64 : Nat) (7 : Int)).toNat : Int))
                          (
                           R (Ending.returned (Value.bool false)) w910)
                          (
                           ∃ n913 : Int,
                           (
                            w910.cell? { block := b883, off := (0 : Nat) } = some (Value.int IntKind.i64 n913)) ∧
                           ∃ n914 : Int,
                           (
                            w910.cell? { block := b7, off := (0 : Nat) } = some (Value.int IntKind.i64 n914)) ∧
                           LetI (IntKind.i64.wrap (n914 + (1 : Int))) fun n915 =>
                           Br (n913 != n915)
                            (
                             R (Ending.returned (Value.bool false)) w910)
                            (
                             ∃ n916 : Int,
                             ∃ p917 : Option Addr,
                             ∃ k918 : Nat,
                             ∃ k919 : Nat,
                             ∃ n920 : Int,
                             (
                              Row w910 { block := b867, off := (0 : Nat) } (0 : Nat) [Value.int IntKind.i64 n916, Value.slice p917 k918 k919, Value.int IntKind.i64 n920]) ∧
                             Ca Try.prog (39 : Nat) #[Value.agg #[Value.int IntKind.i64 n916, Value.slice p917 k918 k919, Value.int IntKind.i64 n920], Value.int IntKind.i64 (IntKind.i64.wrap (↑(BitVec.ofInt (64 : Nat) n6 &&& BitVec.ofInt (64 : Nat) (7 : Int)).toNat : Int))] w910 fun e921 w922 =>
                             ∃ n923 : Int,
                             ∃ b924 : Bool,
                             (
                              e921 = Ending.returned (Value.tuple #[Value.int IntKind.i64 n923, Value.bool b924])) ∧
                             Br (!b924)
                              (
                               Ca Try.prog (26 : Nat) #[] w922 fun e925 w926 =>
                               ∃ b927 : Bool,
                               (
                                e925 = Ending.returned (Value.bool b927)) ∧
                               R (Ending.returned (Value.bool b927)) w926)
                              (
                               R (Ending.returned (Value.bool false)) w922)))))
                      (
                       ∃ n928 : Int,
                       ∃ p929 : Option Addr,
                       ∃ k930 : Nat,
                       ∃ k931 : Nat,
                       ∃ n932 : Int,
                       (
                        Row w892 { block := b867, off := (0 : Nat) } (0 : Nat) [Value.int IntKind.i64 n928, Value.slice p929 k930 k931, Value.int IntKind.i64 n932]) ∧
                       Ca Try.prog (39 : Nat) #[Value.agg #[Value.int IntKind.i64 n928, Value.slice p929 k930 k931, Value.int IntKind.i64 n932], Value.int IntKind.i64 (IntKind.i64.wrap (↑(BitVec.ofInt (64 : Nat) n6 &&& BitVec.ofInt (64 : Nat) (7 : Int)).toNat : Int))] w892 fun e933 w934 =>
                       ∃ n935 : Int,
                       ∃ b936 : Bool,
                       (
                        e933 = Ending.returned (Value.tuple #[Value.int IntKind.i64 n935, Value.bool b936])) ∧
                       Br (!b936)
                        (
                         Ca Try.prog (26 : Nat) #[] w934 fun e937 w938 =>
                         ∃ b939 : Bool,
                         (
                          e937 = Ending.returned (Value.bool b939)) ∧
                         R (Ending.returned (Value.bool b939)) w938)
                        (
                         R (Ending.returned (Value.bool false)) w934))))))
              (
               Br (n882 == (0 : Int))
                (
                 ∃ n940 : Int,
                 ∃ p941 : Option Addr,
                 ∃ k942 : Nat,
                 ∃ k943 : Nat,
                 ∃ n944 : Int,
                 (
                  Row w885 { block := b883, off := (0 : Nat) } (0 : Nat) [Value.int IntKind.i64 n940, Value.slice p941 k942 k943, Value.int IntKind.i64 n944]) ∧
                 Ca Try.prog (34 : Nat) #[Value.agg #[Value.int IntKind.i64 n940, Value.slice p941 k942 k943, Value.int IntKind.i64 n944]] w885 fun e945 w946 =>
                 ∃ n947 : Int,
                 (
                  e945 = Ending.returned (Value.int IntKind.i64 n947)) ∧
                 Br (n947 != (0 : Int))
                  (
                   R (Ending.returned (Value.bool false)) w946)
                  (
                   ∃ n948 : Int,
                   (
                    w946.cell? { block := b883, off := (2 : Nat) } = some (Value.int IntKind.i64 n948)) ∧
                   Br (n948 != IntKind.i64.wrap (↑(BitVec.ofInt (64 : Nat) n6 &&& BitVec.ofInt (64 : Nat) (7 : Int)).toNat : Int))
                    (
                     R (Ending.returned (Value.bool false)) w946)
                    (
                     ∃ n949 : Int,
                     (
                      w946.cell? { block := b883, off := (0 : Nat) } = some (Value.int IntKind.i64 n949)) ∧
                     ∃ n950 : Int,
                     (
                      w946.cell? { block := b7, off := (0 : Nat) } = some (Value.int IntKind.i64 n950)) ∧
                     LetI (IntKind.i64.wrap (n950 + (1 : Int))) fun n951 =>
                     Br (n949 != n951)
                      (
                       R (Ending.returned (Value.bool false)) w946)
                      (
                       ∃ n952 : Int,
                       ∃ p953 : Option Addr,
                       ∃ k954 : Nat,
                       ∃ k955 : Nat,
                       ∃ n956 : Int,
                       (
                        Row w946 { block := b867, off := (0 : Nat) } (0 : Nat) [Value.int IntKind.i64 n952, Value.slice p953 k954 k955, Value.int IntKind.i64 n956]) ∧
                       Ca Try.prog (39 : Nat) #[Value.agg #[Value.int IntKind.i64 n952, Value.slice p953 k954 k955, Value.int IntKind.i64 n956], Value.int IntKind.i64 (IntKind.i64.wrap (↑(BitVec.ofInt (64 : Nat) n6 &&& BitVec.ofInt (64 : Nat) (7 : Int)).toNat : Int))] w946 fun e957 w958 =>
                       ∃ n959 : Int,
                       ∃ b960 : Bool,
                       (
                        e957 = Ending.returned (Value.tuple #[Value.int IntKind.i64 n959, Value.bool b960])) ∧
                       Br (!b960)
                        (
                         Ca Try.prog (26 : Nat) #[] w958 fun e961 w962 =>
                         ∃ b963 : Bool,
                         (
                          e961 = Ending.returned (Value.bool b963)) ∧
                         R (Ending.returned (Value.bool b963)) w962)
                        (
                         R (Ending.returned (Value.bool false)) w958)))))
                (
                 ∃ n964 : Int,
                 ∃ p965 : Option Addr,
                 ∃ k966 : Nat,
                 ∃ k967 : Nat,
                 ∃ n968 : Int,
                 (
                  Row w885 { block := b867, off := (0 : Nat) } (0 : Nat) [Value.int IntKind.i64 n964, Value.slice p965 k966 k967, Value.int IntKind.i64 n968]) ∧
                 Ca Try.prog (39 : Nat) #[Value.agg #[Value.int IntKind.i64 n964, Value.slice p965 k966 k967, Value.int IntKind.i64 n968], Value.int IntKind.i64 (IntKind.i64.wrap (↑(BitVec.ofInt (64 : Nat) n6 &&& BitVec.ofInt (64 : Nat) (7 : Int)).toNat : Int))] w885 fun e969 w970 =>
                 ∃ n971 : Int,
                 ∃ b972 : Bool,
                 (
                  e969 = Ending.returned (Value.tuple #[Value.int IntKind.i64 n971, Value.bool b972])) ∧
                 Br (!b972)
                  (
                   Ca Try.prog (26 : Nat) #[] w970 fun e973 w974 =>
                   ∃ b975 : Bool,
                   (
                    e973 = Ending.returned (Value.bool b975)) ∧
                   R (Ending.returned (Value.bool b975)) w974)
                  (
                   R (Ending.returned (Value.bool false)) w970)))))))))
theorem lawCEnds_ok (n1 : Int) (p2 : Option Addr) (k3 : Nat) (k4 : Nat) (n5 : Int) (n6 : Int) (w : World) (R : Ending → World → Prop) (h : lawCEnds n1 p2 k3 k4 n5 n6 w R) : Ca Try.prog 8 #[Value.agg #[Value.int IntKind.i64 n1, Value.slice p2 k3 k4, Value.int IntKind.i64 n5], Value.int IntKind.i64 n6] w R :=
  Ca.of_fvc (c := bodyOf Try.f8) (by kernel_rfl) Try.func8 (by kernel_rfl) [] (Eq.mp (by kernel_rfl) h)

def lawCGet (s1 : ByteArray) (w : World) (R : Ending → World → Prop) : Prop :=
 Br (decide ((↑s1.size : Int) > (300 : Int)))
  (
   Ca Try.prog (26 : Nat) #[] w fun e2 w3 =>
   ∃ b4 : Bool,
   (
    e2 = Ending.returned (Value.bool b4)) ∧
   R (Ending.returned (Value.bool b4)) w3)
  (
   Ca Try.prog (41 : Nat) #[Value.string s1] w fun e5 w6 =>
   ∃ n7 : Int,
   ∃ p8 : Option Addr,
   ∃ k9 : Nat,
   ∃ k10 : Nat,
   ∃ n11 : Int,
   ∃ n12 : Int,
   (
    e5 = Ending.returned (Value.tuple #[Value.agg #[Value.int IntKind.i64 n7, Value.slice p8 k9 k10, Value.int IntKind.i64 n11], Value.int IntKind.i64 n12])) ∧
   LetA (Obj.cells #[Value.int IntKind.i64 (0 : Int), Value.slice none (0 : Nat) (0 : Nat), Value.int IntKind.i64 (0 : Int)] (37 : Nat)) w6 fun b13 w14 =>
   (
    WrRow w14 { block := b13, off := (0 : Nat) } (0 : Nat) [Value.int IntKind.i64 n7, Value.slice p8 k9 k10, Value.int IntKind.i64 n11]) ∧
   LetW (setRow w14 { block := b13, off := (0 : Nat) } (0 : Nat) [Value.int IntKind.i64 n7, Value.slice p8 k9 k10, Value.int IntKind.i64 n11]) fun w15 =>
   Ca Try.prog (42 : Nat) #[Value.string s1] w15 fun e16 w17 =>
   ∃ n18 : Int,
   ∃ p19 : Option Addr,
   ∃ k20 : Nat,
   ∃ k21 : Nat,
   ∃ n22 : Int,
   ∃ n23 : Int,
   (
    e16 = Ending.returned (Value.tuple #[Value.agg #[Value.int IntKind.i64 n18, Value.slice p19 k20 k21, Value.int IntKind.i64 n22], Value.int IntKind.i64 n23])) ∧
   LetA (Obj.cells #[Value.int IntKind.i64 (0 : Int), Value.slice none (0 : Nat) (0 : Nat), Value.int IntKind.i64 (0 : Int)] (37 : Nat)) w17 fun b24 w25 =>
   (
    WrRow w25 { block := b24, off := (0 : Nat) } (0 : Nat) [Value.int IntKind.i64 n18, Value.slice p19 k20 k21, Value.int IntKind.i64 n22]) ∧
   LetW (setRow w25 { block := b24, off := (0 : Nat) } (0 : Nat) [Value.int IntKind.i64 n18, Value.slice p19 k20 k21, Value.int IntKind.i64 n22]) fun w26 =>
   ∃ n27 : Int,
   ∃ p28 : Option Addr,
   ∃ k29 : Nat,
   ∃ k30 : Nat,
   ∃ n31 : Int,
   (
    Row w26 { block := b13, off := (0 : Nat) } (0 : Nat) [Value.int IntKind.i64 n27, Value.slice p28 k29 k30, Value.int IntKind.i64 n31]) ∧
   ∃ n32 : Int,
   ∃ p33 : Option Addr,
   ∃ k34 : Nat,
   ∃ k35 : Nat,
   ∃ n36 : Int,
   (
    Row w26 { block := b24, off := (0 : Nat) } (0 : Nat) [Value.int IntKind.i64 n32, Value.slice p33 k34 k35, Value.int IntKind.i64 n36]) ∧
   Ca Try.prog (33 : Nat) #[Value.agg #[Value.int IntKind.i64 n27, Value.slice p28 k29 k30, Value.int IntKind.i64 n31], Value.agg #[Value.int IntKind.i64 n32, Value.slice p33 k34 k35, Value.int IntKind.i64 n36]] w26 fun e37 w38 =>
   ∃ b39 : Bool,
   (
    e37 = Ending.returned (Value.bool b39)) ∧
   Br (b39)
    (
     Br (n12 == n23)
      (
       Ca Try.prog (26 : Nat) #[] w38 fun e40 w41 =>
       ∃ b42 : Bool,
       (
        e40 = Ending.returned (Value.bool b42)) ∧
       R (Ending.returned (Value.bool b42)) w41)
      (
       R (Ending.returned (Value.bool false)) w38))
    (
     R (Ending.returned (Value.bool false)) w38))
theorem lawCGet_ok (s1 : ByteArray) (w : World) (R : Ending → World → Prop) (h : lawCGet s1 w R) : Ca Try.prog 9 #[Value.string s1] w R :=
  Ca.of_fvc (c := bodyOf Try.f9) (by kernel_rfl) Try.func9 (by kernel_rfl) [] (Eq.mp (by kernel_rfl) h)

def lawCBack (n1 : Int) (p2 : Option Addr) (k3 : Nat) (k4 : Nat) (n5 : Int) (n6 : Int) (w : World) (R : Ending → World → Prop) : Prop :=
 LetA (Obj.cells #[Value.int IntKind.i64 n1, Value.slice p2 k3 k4, Value.int IntKind.i64 n5] (37 : Nat)) w fun b7 w8 =>
 ∃ n9 : Int,
 ∃ p10 : Option Addr,
 ∃ k11 : Nat,
 ∃ k12 : Nat,
 ∃ n13 : Int,
 (
  Row w8 { block := b7, off := (0 : Nat) } (0 : Nat) [Value.int IntKind.i64 n9, Value.slice p10 k11 k12, Value.int IntKind.i64 n13]) ∧
 Ca Try.prog (25 : Nat) #[Value.agg #[Value.int IntKind.i64 n9, Value.slice p10 k11 k12, Value.int IntKind.i64 n13]] w8 fun e14 w15 =>
 ∃ b16 : Bool,
 (
  e14 = Ending.returned (Value.bool b16)) ∧
 Br (b16)
  (
   Ca Try.prog (26 : Nat) #[] w15 fun e17 w18 =>
   ∃ b19 : Bool,
   (
    e17 = Ending.returned (Value.bool b19)) ∧
   R (Ending.returned (Value.bool b19)) w18)
  (
   ∃ n20 : Int,
   ∃ p21 : Option Addr,
   ∃ k22 : Nat,
   ∃ k23 : Nat,
   ∃ n24 : Int,
   (
    Row w15 { block := b7, off := (0 : Nat) } (0 : Nat) [Value.int IntKind.i64 n20, Value.slice p21 k22 k23, Value.int IntKind.i64 n24]) ∧
   Ca Try.prog (43 : Nat) #[Value.agg #[Value.int IntKind.i64 n20, Value.slice p21 k22 k23, Value.int IntKind.i64 n24]] w15 fun e25 w26 =>
   ∃ s27 : ByteArray,
   ∃ n28 : Int,
   (
    e25 = Ending.returned (Value.tuple #[Value.string s27, Value.int IntKind.i64 n28])) ∧
   Br (n28 != (0 : Int))
    (
     Br (n28 == (2 : Int))
      (
       ∃ n29 : Int,
       ∃ p30 : Option Addr,
       ∃ k31 : Nat,
       ∃ k32 : Nat,
       ∃ n33 : Int,
       (
        Row w26 { block := b7, off := (0 : Nat) } (0 : Nat) [Value.int IntKind.i64 n29, Value.slice p30 k31 k32, Value.int IntKind.i64 n33]) ∧
       Ca Try.prog (34 : Nat) #[Value.agg #[Value.int IntKind.i64 n29, Value.slice p30 k31 k32, Value.int IntKind.i64 n33]] w26 fun e34 w35 =>
       ∃ n36 : Int,
       (
        e34 = Ending.returned (Value.int IntKind.i64 n36)) ∧
       Br (n36 == (2 : Int))
        (
         Br (s27.toList == [])
          (
           Ca Try.prog (26 : Nat) #[] w35 fun e37 w38 =>
           ∃ b39 : Bool,
           (
            e37 = Ending.returned (Value.bool b39)) ∧
           R (Ending.returned (Value.bool b39)) w38)
          (
           R (Ending.returned (Value.bool false)) w35))
        (
         R (Ending.returned (Value.bool false)) w35))
      (
       R (Ending.returned (Value.bool false)) w26))
    (
     Br ((↑s27.size : Int) == (0 : Int))
      (
       R (Ending.returned (Value.bool false)) w26)
      (
       Ca Try.prog (41 : Nat) #[Value.string s27] w26 fun e40 w41 =>
       ∃ n42 : Int,
       ∃ p43 : Option Addr,
       ∃ k44 : Nat,
       ∃ k45 : Nat,
       ∃ n46 : Int,
       ∃ n47 : Int,
       (
        e40 = Ending.returned (Value.tuple #[Value.agg #[Value.int IntKind.i64 n42, Value.slice p43 k44 k45, Value.int IntKind.i64 n46], Value.int IntKind.i64 n47])) ∧
       LetA (Obj.cells #[Value.int IntKind.i64 (0 : Int), Value.slice none (0 : Nat) (0 : Nat), Value.int IntKind.i64 (0 : Int)] (37 : Nat)) w41 fun b48 w49 =>
       (
        WrRow w49 { block := b48, off := (0 : Nat) } (0 : Nat) [Value.int IntKind.i64 n42, Value.slice p43 k44 k45, Value.int IntKind.i64 n46]) ∧
       LetW (setRow w49 { block := b48, off := (0 : Nat) } (0 : Nat) [Value.int IntKind.i64 n42, Value.slice p43 k44 k45, Value.int IntKind.i64 n46]) fun w50 =>
       LetI (IntKind.i64.wrap n6) fun n51 =>
       (
        (↑s27.size : Int) ≠ (0 : Int)) ∧
       LetI (n51.tmod (↑s27.size : Int)) fun n52 =>
       (
        (
         (0 : Int) ≤ (0 : Int)) ∧
        (
         (0 : Int) ≤ n52) ∧
        n52 ≤ (↑s27.size : Int)) ∧
       Ca Try.prog (41 : Nat) #[Value.string (s27.extract (0 : Nat) n52.toNat)] w50 fun e53 w54 =>
       ∃ n55 : Int,
       ∃ p56 : Option Addr,
       ∃ k57 : Nat,
       ∃ k58 : Nat,
       ∃ n59 : Int,
       ∃ n60 : Int,
       (
        e53 = Ending.returned (Value.tuple #[Value.agg #[Value.int IntKind.i64 n55, Value.slice p56 k57 k58, Value.int IntKind.i64 n59], Value.int IntKind.i64 n60])) ∧
       LetA (Obj.cells #[Value.int IntKind.i64 (0 : Int), Value.slice none (0 : Nat) (0 : Nat), Value.int IntKind.i64 (0 : Int)] (37 : Nat)) w54 fun b61 w62 =>
       (
        WrRow w62 { block := b61, off := (0 : Nat) } (0 : Nat) [Value.int IntKind.i64 n55, Value.slice p56 k57 k58, Value.int IntKind.i64 n59]) ∧
       LetW (setRow w62 { block := b61, off := (0 : Nat) } (0 : Nat) [Value.int IntKind.i64 n55, Value.slice p56 k57 k58, Value.int IntKind.i64 n59]) fun w63 =>
       (
        (↑(s27.size + (1 : Nat)) : Int) ≤ IntKind.i64.max) ∧
       Ca Try.prog (41 : Nat) #[Value.string (s27 ++ { data := #[(0 : UInt8)] })] w63 fun e64 w65 =>
       ∃ n66 : Int,
       ∃ p67 : Option Addr,
       ∃ k68 : Nat,
       ∃ k69 : Nat,
       ∃ n70 : Int,
       ∃ n71 : Int,
       (
        e64 = Ending.returned (Value.tuple #[Value.agg #[Value.int IntKind.i64 n66, Value.slice p67 k68 k69, Value.int IntKind.i64 n70], Value.int IntKind.i64 n71])) ∧
       LetA (Obj.cells #[Value.int IntKind.i64 (0 : Int), Value.slice none (0 : Nat) (0 : Nat), Value.int IntKind.i64 (0 : Int)] (37 : Nat)) w65 fun b72 w73 =>
       (
        WrRow w73 { block := b72, off := (0 : Nat) } (0 : Nat) [Value.int IntKind.i64 n66, Value.slice p67 k68 k69, Value.int IntKind.i64 n70]) ∧
       LetW (setRow w73 { block := b72, off := (0 : Nat) } (0 : Nat) [Value.int IntKind.i64 n66, Value.slice p67 k68 k69, Value.int IntKind.i64 n70]) fun w74 =>
       Br (n47 == (0 : Int))
        (
         ∃ n75 : Int,
         ∃ p76 : Option Addr,
         ∃ k77 : Nat,
         ∃ k78 : Nat,
         ∃ n79 : Int,
         (
          Row w74 { block := b48, off := (0 : Nat) } (0 : Nat) [Value.int IntKind.i64 n75, Value.slice p76 k77 k78, Value.int IntKind.i64 n79]) ∧
         ∃ n80 : Int,
         ∃ p81 : Option Addr,
         ∃ k82 : Nat,
         ∃ k83 : Nat,
         ∃ n84 : Int,
         (
          Row w74 { block := b7, off := (0 : Nat) } (0 : Nat) [Value.int IntKind.i64 n80, Value.slice p81 k82 k83, Value.int IntKind.i64 n84]) ∧
         Ca Try.prog (40 : Nat) #[Value.agg #[Value.int IntKind.i64 n75, Value.slice p76 k77 k78, Value.int IntKind.i64 n79], Value.agg #[Value.int IntKind.i64 n80, Value.slice p81 k82 k83, Value.int IntKind.i64 n84]] w74 fun e85 w86 =>
         ∃ b87 : Bool,
         (
          e85 = Ending.returned (Value.bool b87)) ∧
         Br (b87)
          (
           Br (n60 == (10 : Int))
            (
             ∃ p88 : Option Addr,
             ∃ k89 : Nat,
             ∃ k90 : Nat,
             (
              w86.cell? { block := b61, off := (1 : Nat) } = some (Value.slice p88 k89 k90)) ∧
             Br ((↑k89 : Int) == (0 : Int))
              (
               Br (n71 == (10 : Int))
                (
                 ∃ p91 : Option Addr,
                 ∃ k92 : Nat,
                 ∃ k93 : Nat,
                 (
                  w86.cell? { block := b72, off := (1 : Nat) } = some (Value.slice p91 k92 k93)) ∧
                 Br ((↑k92 : Int) == (0 : Int))
                  (
                   Ca Try.prog (26 : Nat) #[] w86 fun e94 w95 =>
                   ∃ b96 : Bool,
                   (
                    e94 = Ending.returned (Value.bool b96)) ∧
                   R (Ending.returned (Value.bool b96)) w95)
                  (
                   R (Ending.returned (Value.bool false)) w86))
                (
                 R (Ending.returned (Value.bool false)) w86))
              (
               R (Ending.returned (Value.bool false)) w86))
            (
             R (Ending.returned (Value.bool false)) w86))
          (
           R (Ending.returned (Value.bool false)) w86))
        (
         R (Ending.returned (Value.bool false)) w74))))
theorem lawCBack_ok (n1 : Int) (p2 : Option Addr) (k3 : Nat) (k4 : Nat) (n5 : Int) (n6 : Int) (w : World) (R : Ending → World → Prop) (h : lawCBack n1 p2 k3 k4 n5 n6 w R) : Ca Try.prog 10 #[Value.agg #[Value.int IntKind.i64 n1, Value.slice p2 k3 k4, Value.int IntKind.i64 n5], Value.int IntKind.u8 n6] w R :=
  Ca.of_fvc (c := bodyOf Try.f10) (by kernel_rfl) Try.func10 (by kernel_rfl) [] (Eq.mp (by kernel_rfl) h)

end Go.Proofs.Ytbdhdjbdooccoaa
