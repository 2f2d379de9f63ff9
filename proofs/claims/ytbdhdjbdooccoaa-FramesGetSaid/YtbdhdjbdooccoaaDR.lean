/- The verification conditions of this seat's functions, printed by a program; the kernel holds each against the loaded code. -/
import Derived.Test.YtbdhdjbdooccoaaProg
import Derived.KernelRfl
import Derived.Test.YtbdhdjbdooccoaaV5
import Derived.Test.YtbdhdjbdooccoaaD
set_option maxRecDepth 100000
namespace Go.Proofs.Ytbdhdjbdooccoaa
open Go Go.Vc Go.Proofs
def rat (n1 : Int) (p2 : Option Addr) (k3 : Nat) (k4 : Nat) (n5 : Int) (n6 : Int) (w : World) (R : Ending → World → Prop) : Prop :=
 LetA (Obj.cells #[Value.int IntKind.i64 n1, Value.slice p2 k3 k4, Value.int IntKind.i64 n5] (37 : Nat)) w fun b7 w8 =>
 ∃ I9 : Nat → List Value → World → Prop,
 (
  ∃ k10 : Nat,
  I9 k10 [Value.int IntKind.i64 (0 : Int), Value.int IntKind.i64 (0 : Int)] w8) ∧
 ∀ n11 : Int,
 ∀ n12 : Int,
 ∀ k13 : Nat,
 ∀ w14 : World,
 (
  I9 k13 [Value.int IntKind.i64 n11, Value.int IntKind.i64 n12] w14) →
 ∃ p15 : Option Addr,
 ∃ k16 : Nat,
 ∃ k17 : Nat,
 (
  w14.cell? { block := b7, off := (1 : Nat) } = some (Value.slice p15 k16 k17)) ∧
 Br (decide (n12 < (↑k16 : Int)))
  (
   ∃ p18 : Option Addr,
   ∃ k19 : Nat,
   ∃ k20 : Nat,
   (
    w14.cell? { block := b7, off := (1 : Nat) } = some (Value.slice p18 k19 k20)) ∧
   NilOk p18 fun a21 =>
   (
    (
     (0 : Int) ≤ n12) ∧
    n12 < (↑k19 : Int)) ∧
   ∃ n22 : Int,
   (
    w14.cell? (a21.add (n12.toNat * (2 : Nat))) = some (Value.int IntKind.i64 n22)) ∧
   Br (n22 == n6)
    (
     R (Ending.returned (Value.int IntKind.i64 n12)) w14)
    (
     LetI (IntKind.i64.wrap (n12 + (1 : Int))) fun n23 =>
     ∃ k24 : Nat,
     (
      k24 < k13) ∧
     I9 k24 [Value.int IntKind.i64 n11, Value.int IntKind.i64 n23] w14))
  (
   R (Ending.returned (Value.int IntKind.i64 (-1 : Int))) w14)
theorem rat_ok (n1 : Int) (p2 : Option Addr) (k3 : Nat) (k4 : Nat) (n5 : Int) (n6 : Int) (w : World) (R : Ending → World → Prop) (h : rat n1 p2 k3 k4 n5 n6 w R) : Ca Try.prog 65 #[Value.agg #[Value.int IntKind.i64 n1, Value.slice p2 k3 k4, Value.int IntKind.i64 n5], Value.int IntKind.i64 n6] w R :=
  Ca.of_fvc (c := bodyOf Try.f65) (by kernel_rfl) Try.func65 (by kernel_rfl) [] (Eq.mp (by kernel_rfl) h)

def rccheck (n1 : Int) (p2 : Option Addr) (k3 : Nat) (k4 : Nat) (n5 : Int) (w : World) (R : Ending → World → Prop) : Prop :=
 LetA (Obj.cells #[Value.int IntKind.i64 n1, Value.slice p2 k3 k4, Value.int IntKind.i64 n5] (37 : Nat)) w fun b6 w7 =>
 ∃ n8 : Int,
 (
  w7.cell? { block := b6, off := (0 : Nat) } = some (Value.int IntKind.i64 n8)) ∧
 Br (decide (n8 < (1 : Int)))
  (
   R (Ending.returned (Value.int IntKind.i64 (2 : Int))) w7)
  (
   ∃ n9 : Int,
   (
    w7.cell? { block := b6, off := (0 : Nat) } = some (Value.int IntKind.i64 n9)) ∧
   Br (decide (n9 > (1099511627776 : Int)))
    (
     R (Ending.returned (Value.int IntKind.i64 (2 : Int))) w7)
    (
     ∃ p10 : Option Addr,
     ∃ k11 : Nat,
     ∃ k12 : Nat,
     (
      w7.cell? { block := b6, off := (1 : Nat) } = some (Value.slice p10 k11 k12)) ∧
     Br ((↑k11 : Int) == (0 : Int))
      (
       R (Ending.returned (Value.int IntKind.i64 (2 : Int))) w7)
      (
       ∃ p13 : Option Addr,
       ∃ k14 : Nat,
       ∃ k15 : Nat,
       (
        w7.cell? { block := b6, off := (1 : Nat) } = some (Value.slice p13 k14 k15)) ∧
       Br (decide ((↑k14 : Int) > (6 : Int)))
        (
         R (Ending.returned (Value.int IntKind.i64 (2 : Int))) w7)
        (
         ∃ I16 : Nat → List Value → World → Prop,
         (
          ∃ k17 : Nat,
          I16 k17 [Value.int IntKind.i64 (0 : Int), Value.int IntKind.i64 (0 : Int)] w7) ∧
         ∀ n18 : Int,
         ∀ n19 : Int,
         ∀ k20 : Nat,
         ∀ w21 : World,
         (
          I16 k20 [Value.int IntKind.i64 n18, Value.int IntKind.i64 n19] w21) →
         ∃ p22 : Option Addr,
         ∃ k23 : Nat,
         ∃ k24 : Nat,
         (
          w21.cell? { block := b6, off := (1 : Nat) } = some (Value.slice p22 k23 k24)) ∧
         Br (decide (n19 < (↑k23 : Int)))
          (
           ∃ p25 : Option Addr,
           ∃ k26 : Nat,
           ∃ k27 : Nat,
           (
            w21.cell? { block := b6, off := (1 : Nat) } = some (Value.slice p25 k26 k27)) ∧
           NilOk p25 fun a28 =>
           (
            (
             (0 : Int) ≤ n19) ∧
            n19 < (↑k26 : Int)) ∧
           ∃ n29 : Int,
           ∃ n30 : Int,
           (
            Row w21 (a28.add (n19.toNat * (2 : Nat))) (0 : Nat) [Value.int IntKind.i64 n29, Value.int IntKind.i64 n30]) ∧
           LetA (Obj.cells #[Value.int IntKind.i64 (0 : Int), Value.int IntKind.i64 (0 : Int)] (43 : Nat)) w21 fun b31 w32 =>
           (
            WrRow w32 { block := b31, off := (0 : Nat) } (0 : Nat) [Value.int IntKind.i64 n29, Value.int IntKind.i64 n30]) ∧
           LetW (setRow w32 { block := b31, off := (0 : Nat) } (0 : Nat) [Value.int IntKind.i64 n29, Value.int IntKind.i64 n30]) fun w33 =>
           ∃ n34 : Int,
           (
            w33.cell? { block := b31, off := (0 : Nat) } = some (Value.int IntKind.i64 n34)) ∧
           Br (decide (n34 < (0 : Int)))
            (
             R (Ending.returned (Value.int IntKind.i64 (2 : Int))) w33)
            (
             ∃ n35 : Int,
             (
              w33.cell? { block := b31, off := (0 : Nat) } = some (Value.int IntKind.i64 n35)) ∧
             Br (decide (n35 > (5 : Int)))
              (
               R (Ending.returned (Value.int IntKind.i64 (2 : Int))) w33)
              (
               ∃ n36 : Int,
               (
                w33.cell? { block := b31, off := (1 : Nat) } = some (Value.int IntKind.i64 n36)) ∧
               Br (decide (n36 < (1 : Int)))
                (
                 R (Ending.returned (Value.int IntKind.i64 (2 : Int))) w33)
                (
                 ∃ n37 : Int,
                 (
                  w33.cell? { block := b31, off := (1 : Nat) } = some (Value.int IntKind.i64 n37)) ∧
                 ∃ n38 : Int,
                 (
                  w33.cell? { block := b6, off := (0 : Nat) } = some (Value.int IntKind.i64 n38)) ∧
                 Br (decide (n37 > n38))
                  (
                   R (Ending.returned (Value.int IntKind.i64 (2 : Int))) w33)
                  (
                   ∃ I39 : Nat → List Value → World → Prop,
                   (
                    ∃ k40 : Nat,
                    I39 k40 [Value.int IntKind.i64 n18, Value.int IntKind.i64 (0 : Int)] w33) ∧
                   ∀ n41 : Int,
                   ∀ n42 : Int,
                   ∀ k43 : Nat,
                   ∀ w44 : World,
                   (
                    I39 k43 [Value.int IntKind.i64 n41, Value.int IntKind.i64 n42] w44) →
                   Br (decide (n42 < n19))
                    (
                     ∃ p45 : Option Addr,
                     ∃ k46 : Nat,
                     ∃ k47 : Nat,
                     (
                      w44.cell? { block := b6, off := (1 : Nat) } = some (Value.slice p45 k46 k47)) ∧
                     NilOk p45 fun a48 =>
                     (
                      (
                       (0 : Int) ≤ n42) ∧
                      n42 < (↑k46 : Int)) ∧
                     ∃ n49 : Int,
                     (
                      w44.cell? (a48.add (n42.toNat * (2 : Nat))) = some (Value.int IntKind.i64 n49)) ∧
                     ∃ n50 : Int,
                     (
                      w44.cell? { block := b31, off := (0 : Nat) } = some (Value.int IntKind.i64 n50)) ∧
                     Br (n49 == n50)
                      (
                       R (Ending.returned (Value.int IntKind.i64 (2 : Int))) w44)
                      (
                       LetI (IntKind.i64.wrap (n42 + (1 : Int))) fun n51 =>
                       ∃ k52 : Nat,
                       (
                        k52 < k43) ∧
                       I39 k52 [Value.int IntKind.i64 n41, Value.int IntKind.i64 n51] w44))
                    (
                     LetI (IntKind.i64.wrap (n19 + (1 : Int))) fun n53 =>
                     ∃ k54 : Nat,
                     (
                      k54 < k20) ∧
                     I16 k54 [Value.int IntKind.i64 n41, Value.int IntKind.i64 n53] w44))))))
          (
           ∃ n55 : Int,
           (
            w21.cell? { block := b6, off := (2 : Nat) } = some (Value.int IntKind.i64 n55)) ∧
           Br (n55 != (-1 : Int))
            (
             ∃ n56 : Int,
             ∃ p57 : Option Addr,
             ∃ k58 : Nat,
             ∃ k59 : Nat,
             ∃ n60 : Int,
             (
              Row w21 { block := b6, off := (0 : Nat) } (0 : Nat) [Value.int IntKind.i64 n56, Value.slice p57 k58 k59, Value.int IntKind.i64 n60]) ∧
             ∃ n61 : Int,
             (
              w21.cell? { block := b6, off := (2 : Nat) } = some (Value.int IntKind.i64 n61)) ∧
             Ca Try.prog (65 : Nat) #[Value.agg #[Value.int IntKind.i64 n56, Value.slice p57 k58 k59, Value.int IntKind.i64 n60], Value.int IntKind.i64 n61] w21 fun e62 w63 =>
             ∃ n64 : Int,
             (
              e62 = Ending.returned (Value.int IntKind.i64 n64)) ∧
             Br (n64 == (-1 : Int))
              (
               R (Ending.returned (Value.int IntKind.i64 (2 : Int))) w63)
              (
               R (Ending.returned (Value.int IntKind.i64 (0 : Int))) w63))
            (
             R (Ending.returned (Value.int IntKind.i64 (0 : Int))) w21))))))
theorem rccheck_ok (n1 : Int) (p2 : Option Addr) (k3 : Nat) (k4 : Nat) (n5 : Int) (w : World) (R : Ending → World → Prop) (h : rccheck n1 p2 k3 k4 n5 w R) : Ca Try.prog 64 #[Value.agg #[Value.int IntKind.i64 n1, Value.slice p2 k3 k4, Value.int IntKind.i64 n5]] w R :=
  Ca.of_fvc (c := bodyOf Try.f64) (by kernel_rfl) Try.func64 (by kernel_rfl) [] (Eq.mp (by kernel_rfl) h)

def rleaves (n1 : Int) (p2 : Option Addr) (k3 : Nat) (k4 : Nat) (n5 : Int) (n6 : Int) (w : World) (R : Ending → World → Prop) : Prop :=
 LetA (Obj.cells #[Value.int IntKind.i64 n1, Value.slice p2 k3 k4, Value.int IntKind.i64 n5] (37 : Nat)) w fun b7 w8 =>
 ∃ n9 : Int,
 ∃ p10 : Option Addr,
 ∃ k11 : Nat,
 ∃ k12 : Nat,
 ∃ n13 : Int,
 (
  Row w8 { block := b7, off := (0 : Nat) } (0 : Nat) [Value.int IntKind.i64 n9, Value.slice p10 k11 k12, Value.int IntKind.i64 n13]) ∧
 Ca Try.prog (64 : Nat) #[Value.agg #[Value.int IntKind.i64 n9, Value.slice p10 k11 k12, Value.int IntKind.i64 n13]] w8 fun e14 w15 =>
 ∃ n16 : Int,
 (
  e14 = Ending.returned (Value.int IntKind.i64 n16)) ∧
 Br (n16 != (0 : Int))
  (
   R (Ending.returned (Value.int IntKind.i64 (2 : Int))) w15)
  (
   ∃ n17 : Int,
   (
    w15.cell? { block := b7, off := (0 : Nat) } = some (Value.int IntKind.i64 n17)) ∧
   Br (n17 == (1099511627776 : Int))
    (
     R (Ending.returned (Value.int IntKind.i64 (2 : Int))) w15)
    (
     ∃ n18 : Int,
     ∃ p19 : Option Addr,
     ∃ k20 : Nat,
     ∃ k21 : Nat,
     ∃ n22 : Int,
     (
      Row w15 { block := b7, off := (0 : Nat) } (0 : Nat) [Value.int IntKind.i64 n18, Value.slice p19 k20 k21, Value.int IntKind.i64 n22]) ∧
     Ca Try.prog (65 : Nat) #[Value.agg #[Value.int IntKind.i64 n18, Value.slice p19 k20 k21, Value.int IntKind.i64 n22], Value.int IntKind.i64 n6] w15 fun e23 w24 =>
     ∃ n25 : Int,
     (
      e23 = Ending.returned (Value.int IntKind.i64 n25)) ∧
     Br (decide (n25 < (0 : Int)))
      (
       R (Ending.returned (Value.int IntKind.i64 (4 : Int))) w24)
      (
       ∃ p26 : Option Addr,
       ∃ k27 : Nat,
       ∃ k28 : Nat,
       (
        w24.cell? { block := b7, off := (1 : Nat) } = some (Value.slice p26 k27 k28)) ∧
       Br (decide ((↑k27 : Int) < (2 : Int)))
        (
         R (Ending.returned (Value.int IntKind.i64 (72 : Int))) w24)
        (
         R (Ending.returned (Value.int IntKind.i64 (0 : Int))) w24))))
theorem rleaves_ok (n1 : Int) (p2 : Option Addr) (k3 : Nat) (k4 : Nat) (n5 : Int) (n6 : Int) (w : World) (R : Ending → World → Prop) (h : rleaves n1 p2 k3 k4 n5 n6 w R) : Ca Try.prog 68 #[Value.agg #[Value.int IntKind.i64 n1, Value.slice p2 k3 k4, Value.int IntKind.i64 n5], Value.int IntKind.i64 n6] w R :=
  Ca.of_fvc (c := bodyOf Try.f68) (by kernel_rfl) Try.func68 (by kernel_rfl) [] (Eq.mp (by kernel_rfl) h)

def rwith (n1 : Int) (p2 : Option Addr) (k3 : Nat) (k4 : Nat) (n5 : Int) (n6 : Int) (w : World) (R : Ending → World → Prop) : Prop :=
 LetA (Obj.cells #[Value.int IntKind.i64 n1, Value.slice p2 k3 k4, Value.int IntKind.i64 n5] (37 : Nat)) w fun b7 w8 =>
 LetA (Obj.cells #[Value.int IntKind.i64 (0 : Int), Value.slice none (0 : Nat) (0 : Nat), Value.int IntKind.i64 (0 : Int)] (37 : Nat)) w8 fun b9 w10 =>
 ∃ n11 : Int,
 ∃ p12 : Option Addr,
 ∃ k13 : Nat,
 ∃ k14 : Nat,
 ∃ n15 : Int,
 (
  Row w10 { block := b7, off := (0 : Nat) } (0 : Nat) [Value.int IntKind.i64 n11, Value.slice p12 k13 k14, Value.int IntKind.i64 n15]) ∧
 Ca Try.prog (64 : Nat) #[Value.agg #[Value.int IntKind.i64 n11, Value.slice p12 k13 k14, Value.int IntKind.i64 n15]] w10 fun e16 w17 =>
 ∃ n18 : Int,
 (
  e16 = Ending.returned (Value.int IntKind.i64 n18)) ∧
 Br (n18 != (0 : Int))
  (
   (
    WrRow w17 { block := b9, off := (0 : Nat) } (0 : Nat) [Value.int IntKind.i64 (0 : Int), Value.slice none (0 : Nat) (0 : Nat), Value.int IntKind.i64 (0 : Int)]) ∧
   LetW (setRow w17 { block := b9, off := (0 : Nat) } (0 : Nat) [Value.int IntKind.i64 (0 : Int), Value.slice none (0 : Nat) (0 : Nat), Value.int IntKind.i64 (0 : Int)]) fun w19 =>
   ∃ n20 : Int,
   ∃ p21 : Option Addr,
   ∃ k22 : Nat,
   ∃ k23 : Nat,
   ∃ n24 : Int,
   (
    Row w19 { block := b9, off := (0 : Nat) } (0 : Nat) [Value.int IntKind.i64 n20, Value.slice p21 k22 k23, Value.int IntKind.i64 n24]) ∧
   R (Ending.returned (Value.tuple #[Value.agg #[Value.int IntKind.i64 n20, Value.slice p21 k22 k23, Value.int IntKind.i64 n24], Value.int IntKind.i64 (2 : Int)])) w19)
  (
   ∃ n25 : Int,
   (
    w17.cell? { block := b7, off := (0 : Nat) } = some (Value.int IntKind.i64 n25)) ∧
   Br (n25 == (1099511627776 : Int))
    (
     (
      WrRow w17 { block := b9, off := (0 : Nat) } (0 : Nat) [Value.int IntKind.i64 (0 : Int), Value.slice none (0 : Nat) (0 : Nat), Value.int IntKind.i64 (0 : Int)]) ∧
     LetW (setRow w17 { block := b9, off := (0 : Nat) } (0 : Nat) [Value.int IntKind.i64 (0 : Int), Value.slice none (0 : Nat) (0 : Nat), Value.int IntKind.i64 (0 : Int)]) fun w26 =>
     ∃ n27 : Int,
     ∃ p28 : Option Addr,
     ∃ k29 : Nat,
     ∃ k30 : Nat,
     ∃ n31 : Int,
     (
      Row w26 { block := b9, off := (0 : Nat) } (0 : Nat) [Value.int IntKind.i64 n27, Value.slice p28 k29 k30, Value.int IntKind.i64 n31]) ∧
     R (Ending.returned (Value.tuple #[Value.agg #[Value.int IntKind.i64 n27, Value.slice p28 k29 k30, Value.int IntKind.i64 n31], Value.int IntKind.i64 (2 : Int)])) w26)
    (
     Br (decide (n6 < (0 : Int)))
      (
       (
        WrRow w17 { block := b9, off := (0 : Nat) } (0 : Nat) [Value.int IntKind.i64 (0 : Int), Value.slice none (0 : Nat) (0 : Nat), Value.int IntKind.i64 (0 : Int)]) ∧
       LetW (setRow w17 { block := b9, off := (0 : Nat) } (0 : Nat) [Value.int IntKind.i64 (0 : Int), Value.slice none (0 : Nat) (0 : Nat), Value.int IntKind.i64 (0 : Int)]) fun w32 =>
       ∃ n33 : Int,
       ∃ p34 : Option Addr,
       ∃ k35 : Nat,
       ∃ k36 : Nat,
       ∃ n37 : Int,
       (
        Row w32 { block := b9, off := (0 : Nat) } (0 : Nat) [Value.int IntKind.i64 n33, Value.slice p34 k35 k36, Value.int IntKind.i64 n37]) ∧
       R (Ending.returned (Value.tuple #[Value.agg #[Value.int IntKind.i64 n33, Value.slice p34 k35 k36, Value.int IntKind.i64 n37], Value.int IntKind.i64 (2 : Int)])) w32)
      (
       Br (decide (n6 > (5 : Int)))
        (
         (
          WrRow w17 { block := b9, off := (0 : Nat) } (0 : Nat) [Value.int IntKind.i64 (0 : Int), Value.slice none (0 : Nat) (0 : Nat), Value.int IntKind.i64 (0 : Int)]) ∧
         LetW (setRow w17 { block := b9, off := (0 : Nat) } (0 : Nat) [Value.int IntKind.i64 (0 : Int), Value.slice none (0 : Nat) (0 : Nat), Value.int IntKind.i64 (0 : Int)]) fun w38 =>
         ∃ n39 : Int,
         ∃ p40 : Option Addr,
         ∃ k41 : Nat,
         ∃ k42 : Nat,
         ∃ n43 : Int,
         (
          Row w38 { block := b9, off := (0 : Nat) } (0 : Nat) [Value.int IntKind.i64 n39, Value.slice p40 k41 k42, Value.int IntKind.i64 n43]) ∧
         R (Ending.returned (Value.tuple #[Value.agg #[Value.int IntKind.i64 n39, Value.slice p40 k41 k42, Value.int IntKind.i64 n43], Value.int IntKind.i64 (2 : Int)])) w38)
        (
         ∃ n44 : Int,
         ∃ p45 : Option Addr,
         ∃ k46 : Nat,
         ∃ k47 : Nat,
         ∃ n48 : Int,
         (
          Row w17 { block := b7, off := (0 : Nat) } (0 : Nat) [Value.int IntKind.i64 n44, Value.slice p45 k46 k47, Value.int IntKind.i64 n48]) ∧
         Ca Try.prog (65 : Nat) #[Value.agg #[Value.int IntKind.i64 n44, Value.slice p45 k46 k47, Value.int IntKind.i64 n48], Value.int IntKind.i64 n6] w17 fun e49 w50 =>
         ∃ n51 : Int,
         (
          e49 = Ending.returned (Value.int IntKind.i64 n51)) ∧
         Br (decide (n51 ≥ (0 : Int)))
          (
           (
            WrRow w50 { block := b9, off := (0 : Nat) } (0 : Nat) [Value.int IntKind.i64 (0 : Int), Value.slice none (0 : Nat) (0 : Nat), Value.int IntKind.i64 (0 : Int)]) ∧
           LetW (setRow w50 { block := b9, off := (0 : Nat) } (0 : Nat) [Value.int IntKind.i64 (0 : Int), Value.slice none (0 : Nat) (0 : Nat), Value.int IntKind.i64 (0 : Int)]) fun w52 =>
           ∃ n53 : Int,
           ∃ p54 : Option Addr,
           ∃ k55 : Nat,
           ∃ k56 : Nat,
           ∃ n57 : Int,
           (
            Row w52 { block := b9, off := (0 : Nat) } (0 : Nat) [Value.int IntKind.i64 n53, Value.slice p54 k55 k56, Value.int IntKind.i64 n57]) ∧
           R (Ending.returned (Value.tuple #[Value.agg #[Value.int IntKind.i64 n53, Value.slice p54 k55 k56, Value.int IntKind.i64 n57], Value.int IntKind.i64 (62 : Int)])) w52)
          (
           ∃ p58 : Option Addr,
           ∃ k59 : Nat,
           ∃ k60 : Nat,
           (
            w50.cell? { block := b7, off := (1 : Nat) } = some (Value.slice p58 k59 k60)) ∧
           ∃ n61 : Int,
           (
            w50.cell? { block := b7, off := (0 : Nat) } = some (Value.int IntKind.i64 n61)) ∧
           LetI (IntKind.i64.wrap (n61 + (1 : Int))) fun n62 =>
           (
            RunsV Try.prog (Builtin.append_ #[(35 : Nat), (35 : Nat)] (35 : Nat) #[Value.slice none (0 : Nat) (0 : Nat), Value.slice p58 k59 k60]) w50 fun v63 w64 =>
            ∃ p65 : Option Addr,
            ∃ k66 : Nat,
            ∃ k67 : Nat,
            (
             v63 = Value.slice p65 k66 k67) ∧
            (
             w64.cell? { block := b7, off := (0 : Nat) } = some (Value.int IntKind.i64 n61)) ∧
            LetA (Obj.cells #[Value.int IntKind.i64 n6, Value.int IntKind.i64 n62] (43 : Nat)) w64 fun b68 w69 =>
            RunsV Try.prog (Builtin.append_ #[(35 : Nat), (35 : Nat)] (35 : Nat) #[Value.slice p65 k66 k67, Value.slice (some { block := b68, off := (0 : Nat) }) (1 : Nat) (1 : Nat)]) w69 fun v70 w71 =>
            ∃ p72 : Option Addr,
            ∃ k73 : Nat,
            ∃ k74 : Nat,
            (
             v70 = Value.slice p72 k73 k74) ∧
            ∃ n75 : Int,
            (
             w71.cell? { block := b7, off := (0 : Nat) } = some (Value.int IntKind.i64 n75)) ∧
            LetI (IntKind.i64.wrap (n75 + (1 : Int))) fun n76 =>
            ∃ n77 : Int,
            (
             w71.cell? { block := b7, off := (2 : Nat) } = some (Value.int IntKind.i64 n77)) ∧
            (
             WrRow w71 { block := b9, off := (0 : Nat) } (0 : Nat) [Value.int IntKind.i64 n76, Value.slice p72 k73 k74, Value.int IntKind.i64 n77]) ∧
            LetW (setRow w71 { block := b9, off := (0 : Nat) } (0 : Nat) [Value.int IntKind.i64 n76, Value.slice p72 k73 k74, Value.int IntKind.i64 n77]) fun w78 =>
            ∃ n79 : Int,
            ∃ p80 : Option Addr,
            ∃ k81 : Nat,
            ∃ k82 : Nat,
            ∃ n83 : Int,
            (
             Row w78 { block := b9, off := (0 : Nat) } (0 : Nat) [Value.int IntKind.i64 n79, Value.slice p80 k81 k82, Value.int IntKind.i64 n83]) ∧
            R (Ending.returned (Value.tuple #[Value.agg #[Value.int IntKind.i64 n79, Value.slice p80 k81 k82, Value.int IntKind.i64 n83], Value.int IntKind.i64 (0 : Int)])) w78) ∧
           LetA (Obj.cells #[Value.int IntKind.i64 n6, Value.int IntKind.i64 n62] (43 : Nat)) w50 fun b84 w85 =>
           (
            w85.cell? { block := b7, off := (1 : Nat) } = some (Value.slice p58 k59 k60)) ∧
           RunsV Try.prog (Builtin.append_ #[(35 : Nat), (35 : Nat)] (35 : Nat) #[Value.slice none (0 : Nat) (0 : Nat), Value.slice p58 k59 k60]) w85 fun v86 w87 =>
           ∃ p88 : Option Addr,
           ∃ k89 : Nat,
           ∃ k90 : Nat,
           (
            v86 = Value.slice p88 k89 k90) ∧
           RunsV Try.prog (Builtin.append_ #[(35 : Nat), (35 : Nat)] (35 : Nat) #[Value.slice p88 k89 k90, Value.slice (some { block := b84, off := (0 : Nat) }) (1 : Nat) (1 : Nat)]) w87 fun v91 w92 =>
           ∃ p93 : Option Addr,
           ∃ k94 : Nat,
           ∃ k95 : Nat,
           (
            v91 = Value.slice p93 k94 k95) ∧
           ∃ n96 : Int,
           (
            w92.cell? { block := b7, off := (0 : Nat) } = some (Value.int IntKind.i64 n96)) ∧
           LetI (IntKind.i64.wrap (n96 + (1 : Int))) fun n97 =>
           ∃ n98 : Int,
           (
            w92.cell? { block := b7, off := (2 : Nat) } = some (Value.int IntKind.i64 n98)) ∧
           (
            WrRow w92 { block := b9, off := (0 : Nat) } (0 : Nat) [Value.int IntKind.i64 n97, Value.slice p93 k94 k95, Value.int IntKind.i64 n98]) ∧
           LetW (setRow w92 { block := b9, off := (0 : Nat) } (0 : Nat) [Value.int IntKind.i64 n97, Value.slice p93 k94 k95, Value.int IntKind.i64 n98]) fun w99 =>
           ∃ n100 : Int,
           ∃ p101 : Option Addr,
           ∃ k102 : Nat,
           ∃ k103 : Nat,
           ∃ n104 : Int,
           (
            Row w99 { block := b9, off := (0 : Nat) } (0 : Nat) [Value.int IntKind.i64 n100, Value.slice p101 k102 k103, Value.int IntKind.i64 n104]) ∧
           R (Ending.returned (Value.tuple #[Value.agg #[Value.int IntKind.i64 n100, Value.slice p101 k102 k103, Value.int IntKind.i64 n104], Value.int IntKind.i64 (0 : Int)])) w99)))))
theorem rwith_ok (n1 : Int) (p2 : Option Addr) (k3 : Nat) (k4 : Nat) (n5 : Int) (n6 : Int) (w : World) (R : Ending → World → Prop) (h : rwith n1 p2 k3 k4 n5 n6 w R) : Ca Try.prog 28 #[Value.agg #[Value.int IntKind.i64 n1, Value.slice p2 k3 k4, Value.int IntKind.i64 n5], Value.int IntKind.i64 n6] w R :=
  Ca.of_fvc (c := bodyOf Try.f28) (by kernel_rfl) Try.func28 (by kernel_rfl) [] (Eq.mp (by kernel_rfl) h)

def rwithout (n1 : Int) (p2 : Option Addr) (k3 : Nat) (k4 : Nat) (n5 : Int) (n6 : Int) (w : World) (R : Ending → World → Prop) : Prop :=
 LetA (Obj.cells #[Value.int IntKind.i64 n1, Value.slice p2 k3 k4, Value.int IntKind.i64 n5] (37 : Nat)) w fun b7 w8 =>
 LetA (Obj.cells #[Value.int IntKind.i64 (0 : Int), Value.slice none (0 : Nat) (0 : Nat), Value.int IntKind.i64 (0 : Int)] (37 : Nat)) w8 fun b9 w10 =>
 ∃ n11 : Int,
 ∃ p12 : Option Addr,
 ∃ k13 : Nat,
 ∃ k14 : Nat,
 ∃ n15 : Int,
 (
  Row w10 { block := b7, off := (0 : Nat) } (0 : Nat) [Value.int IntKind.i64 n11, Value.slice p12 k13 k14, Value.int IntKind.i64 n15]) ∧
 Ca Try.prog (68 : Nat) #[Value.agg #[Value.int IntKind.i64 n11, Value.slice p12 k13 k14, Value.int IntKind.i64 n15], Value.int IntKind.i64 n6] w10 fun e16 w17 =>
 ∃ n18 : Int,
 (
  e16 = Ending.returned (Value.int IntKind.i64 n18)) ∧
 Br (n18 != (0 : Int))
  (
   (
    WrRow w17 { block := b9, off := (0 : Nat) } (0 : Nat) [Value.int IntKind.i64 (0 : Int), Value.slice none (0 : Nat) (0 : Nat), Value.int IntKind.i64 (0 : Int)]) ∧
   LetW (setRow w17 { block := b9, off := (0 : Nat) } (0 : Nat) [Value.int IntKind.i64 (0 : Int), Value.slice none (0 : Nat) (0 : Nat), Value.int IntKind.i64 (0 : Int)]) fun w19 =>
   ∃ n20 : Int,
   ∃ p21 : Option Addr,
   ∃ k22 : Nat,
   ∃ k23 : Nat,
   ∃ n24 : Int,
   (
    Row w19 { block := b9, off := (0 : Nat) } (0 : Nat) [Value.int IntKind.i64 n20, Value.slice p21 k22 k23, Value.int IntKind.i64 n24]) ∧
   R (Ending.returned (Value.tuple #[Value.agg #[Value.int IntKind.i64 n20, Value.slice p21 k22 k23, Value.int IntKind.i64 n24], Value.int IntKind.i64 n18])) w19)
  (
   ∃ n25 : Int,
   (
    w17.cell? { block := b7, off := (0 : Nat) } = some (Value.int IntKind.i64 n25)) ∧
   LetI (IntKind.i64.wrap (n25 + (1 : Int))) fun n26 =>
   ∃ n27 : Int,
   (
    w17.cell? { block := b7, off := (2 : Nat) } = some (Value.int IntKind.i64 n27)) ∧
   LetA (Obj.cells #[Value.int IntKind.i64 (0 : Int), Value.slice none (0 : Nat) (0 : Nat), Value.int IntKind.i64 (0 : Int)] (37 : Nat)) w17 fun b28 w29 =>
   (
    WrRow w29 { block := b28, off := (0 : Nat) } (0 : Nat) [Value.int IntKind.i64 n26, Value.slice none (0 : Nat) (0 : Nat), Value.int IntKind.i64 n27]) ∧
   LetW (setRow w29 { block := b28, off := (0 : Nat) } (0 : Nat) [Value.int IntKind.i64 n26, Value.slice none (0 : Nat) (0 : Nat), Value.int IntKind.i64 n27]) fun w30 =>
   ∃ I31 : Nat → List Value → World → Prop,
   (
    ∃ k32 : Nat,
    I31 k32 [Value.int IntKind.i64 (0 : Int)] w30) ∧
   ∀ n33 : Int,
   ∀ k34 : Nat,
   ∀ w35 : World,
   (
    I31 k34 [Value.int IntKind.i64 n33] w35) →
   ∃ p36 : Option Addr,
   ∃ k37 : Nat,
   ∃ k38 : Nat,
   (
    w35.cell? { block := b7, off := (1 : Nat) } = some (Value.slice p36 k37 k38)) ∧
   Br (decide (n33 < (↑k37 : Int)))
    (
     ∃ p39 : Option Addr,
     ∃ k40 : Nat,
     ∃ k41 : Nat,
     (
      w35.cell? { block := b7, off := (1 : Nat) } = some (Value.slice p39 k40 k41)) ∧
     NilOk p39 fun a42 =>
     (
      (
       (0 : Int) ≤ n33) ∧
      n33 < (↑k40 : Int)) ∧
     ∃ n43 : Int,
     (
      w35.cell? (a42.add (n33.toNat * (2 : Nat))) = some (Value.int IntKind.i64 n43)) ∧
     Br (n43 != n6)
      (
       ∃ p44 : Option Addr,
       ∃ k45 : Nat,
       ∃ k46 : Nat,
       (
        w35.cell? { block := b28, off := (1 : Nat) } = some (Value.slice p44 k45 k46)) ∧
       ∃ p47 : Option Addr,
       ∃ k48 : Nat,
       ∃ k49 : Nat,
       (
        w35.cell? { block := b7, off := (1 : Nat) } = some (Value.slice p47 k48 k49)) ∧
       NilOk p47 fun a50 =>
       (
        (
         (0 : Int) ≤ n33) ∧
        n33 < (↑k48 : Int)) ∧
       ∃ n51 : Int,
       ∃ n52 : Int,
       (
        Row w35 (a50.add (n33.toNat * (2 : Nat))) (0 : Nat) [Value.int IntKind.i64 n51, Value.int IntKind.i64 n52]) ∧
       LetA (Obj.cells #[Value.int IntKind.i64 n51, Value.int IntKind.i64 n52] (43 : Nat)) w35 fun b53 w54 =>
       (
        w54.cell? { block := b28, off := (1 : Nat) } = some (Value.slice p44 k45 k46)) ∧
       RunsV Try.prog (Builtin.append_ #[(35 : Nat), (35 : Nat)] (35 : Nat) #[Value.slice p44 k45 k46, Value.slice (some { block := b53, off := (0 : Nat) }) (1 : Nat) (1 : Nat)]) w54 fun v55 w56 =>
       ∃ p57 : Option Addr,
       ∃ k58 : Nat,
       ∃ k59 : Nat,
       (
        v55 = Value.slice p57 k58 k59) ∧
       (
        Wr w56 { block := b28, off := (1 : Nat) }) ∧
       LetW (w56.setCell { block := b28, off := (1 : Nat) } (Value.slice p57 k58 k59)) fun w60 =>
       LetI (IntKind.i64.wrap (n33 + (1 : Int))) fun n61 =>
       ∃ k62 : Nat,
       (
        k62 < k34) ∧
       I31 k62 [Value.int IntKind.i64 n61] w60)
      (
       LetI (IntKind.i64.wrap (n33 + (1 : Int))) fun n63 =>
       ∃ k64 : Nat,
       (
        k64 < k34) ∧
       I31 k64 [Value.int IntKind.i64 n63] w35))
    (
     ∃ n65 : Int,
     (
      w35.cell? { block := b7, off := (2 : Nat) } = some (Value.int IntKind.i64 n65)) ∧
     Br (n65 == n6)
      (
       (
        Wr w35 { block := b28, off := (2 : Nat) }) ∧
       LetW (w35.setCell { block := b28, off := (2 : Nat) } (Value.int IntKind.i64 (-1 : Int))) fun w66 =>
       ∃ n67 : Int,
       ∃ p68 : Option Addr,
       ∃ k69 : Nat,
       ∃ k70 : Nat,
       ∃ n71 : Int,
       (
        Row w66 { block := b28, off := (0 : Nat) } (0 : Nat) [Value.int IntKind.i64 n67, Value.slice p68 k69 k70, Value.int IntKind.i64 n71]) ∧
       (
        WrRow w66 { block := b9, off := (0 : Nat) } (0 : Nat) [Value.int IntKind.i64 n67, Value.slice p68 k69 k70, Value.int IntKind.i64 n71]) ∧
       LetW (setRow w66 { block := b9, off := (0 : Nat) } (0 : Nat) [Value.int IntKind.i64 n67, Value.slice p68 k69 k70, Value.int IntKind.i64 n71]) fun w72 =>
       ∃ n73 : Int,
       ∃ p74 : Option Addr,
       ∃ k75 : Nat,
       ∃ k76 : Nat,
       ∃ n77 : Int,
       (
        Row w72 { block := b9, off := (0 : Nat) } (0 : Nat) [Value.int IntKind.i64 n73, Value.slice p74 k75 k76, Value.int IntKind.i64 n77]) ∧
       R (Ending.returned (Value.tuple #[Value.agg #[Value.int IntKind.i64 n73, Value.slice p74 k75 k76, Value.int IntKind.i64 n77], Value.int IntKind.i64 (0 : Int)])) w72)
      (
       ∃ n78 : Int,
       ∃ p79 : Option Addr,
       ∃ k80 : Nat,
       ∃ k81 : Nat,
       ∃ n82 : Int,
       (
        Row w35 { block := b28, off := (0 : Nat) } (0 : Nat) [Value.int IntKind.i64 n78, Value.slice p79 k80 k81, Value.int IntKind.i64 n82]) ∧
       (
        WrRow w35 { block := b9, off := (0 : Nat) } (0 : Nat) [Value.int IntKind.i64 n78, Value.slice p79 k80 k81, Value.int IntKind.i64 n82]) ∧
       LetW (setRow w35 { block := b9, off := (0 : Nat) } (0 : Nat) [Value.int IntKind.i64 n78, Value.slice p79 k80 k81, Value.int IntKind.i64 n82]) fun w83 =>
       ∃ n84 : Int,
       ∃ p85 : Option Addr,
       ∃ k86 : Nat,
       ∃ k87 : Nat,
       ∃ n88 : Int,
       (
        Row w83 { block := b9, off := (0 : Nat) } (0 : Nat) [Value.int IntKind.i64 n84, Value.slice p85 k86 k87, Value.int IntKind.i64 n88]) ∧
       R (Ending.returned (Value.tuple #[Value.agg #[Value.int IntKind.i64 n84, Value.slice p85 k86 k87, Value.int IntKind.i64 n88], Value.int IntKind.i64 (0 : Int)])) w83)))
theorem rwithout_ok (n1 : Int) (p2 : Option Addr) (k3 : Nat) (k4 : Nat) (n5 : Int) (n6 : Int) (w : World) (R : Ending → World → Prop) (h : rwithout n1 p2 k3 k4 n5 n6 w R) : Ca Try.prog 30 #[Value.agg #[Value.int IntKind.i64 n1, Value.slice p2 k3 k4, Value.int IntKind.i64 n5], Value.int IntKind.i64 n6] w R :=
  Ca.of_fvc (c := bodyOf Try.f30) (by kernel_rfl) Try.func30 (by kernel_rfl) [] (Eq.mp (by kernel_rfl) h)

def rdrain (n1 : Int) (p2 : Option Addr) (k3 : Nat) (k4 : Nat) (n5 : Int) (n6 : Int) (w : World) (R : Ending → World → Prop) : Prop :=
 LetA (Obj.cells #[Value.int IntKind.i64 n1, Value.slice p2 k3 k4, Value.int IntKind.i64 n5] (37 : Nat)) w fun b7 w8 =>
 LetA (Obj.cells #[Value.int IntKind.i64 (0 : Int), Value.slice none (0 : Nat) (0 : Nat), Value.int IntKind.i64 (0 : Int)] (37 : Nat)) w8 fun b9 w10 =>
 ∃ n11 : Int,
 ∃ p12 : Option Addr,
 ∃ k13 : Nat,
 ∃ k14 : Nat,
 ∃ n15 : Int,
 (
  Row w10 { block := b7, off := (0 : Nat) } (0 : Nat) [Value.int IntKind.i64 n11, Value.slice p12 k13 k14, Value.int IntKind.i64 n15]) ∧
 Ca Try.prog (68 : Nat) #[Value.agg #[Value.int IntKind.i64 n11, Value.slice p12 k13 k14, Value.int IntKind.i64 n15], Value.int IntKind.i64 n6] w10 fun e16 w17 =>
 ∃ n18 : Int,
 (
  e16 = Ending.returned (Value.int IntKind.i64 n18)) ∧
 Br (n18 != (0 : Int))
  (
   (
    WrRow w17 { block := b9, off := (0 : Nat) } (0 : Nat) [Value.int IntKind.i64 (0 : Int), Value.slice none (0 : Nat) (0 : Nat), Value.int IntKind.i64 (0 : Int)]) ∧
   LetW (setRow w17 { block := b9, off := (0 : Nat) } (0 : Nat) [Value.int IntKind.i64 (0 : Int), Value.slice none (0 : Nat) (0 : Nat), Value.int IntKind.i64 (0 : Int)]) fun w19 =>
   ∃ n20 : Int,
   ∃ p21 : Option Addr,
   ∃ k22 : Nat,
   ∃ k23 : Nat,
   ∃ n24 : Int,
   (
    Row w19 { block := b9, off := (0 : Nat) } (0 : Nat) [Value.int IntKind.i64 n20, Value.slice p21 k22 k23, Value.int IntKind.i64 n24]) ∧
   R (Ending.returned (Value.tuple #[Value.agg #[Value.int IntKind.i64 n20, Value.slice p21 k22 k23, Value.int IntKind.i64 n24], Value.int IntKind.i64 n18])) w19)
  (
   ∃ n25 : Int,
   (
    w17.cell? { block := b7, off := (2 : Nat) } = some (Value.int IntKind.i64 n25)) ∧
   Br (n25 != (-1 : Int))
    (
     (
      WrRow w17 { block := b9, off := (0 : Nat) } (0 : Nat) [Value.int IntKind.i64 (0 : Int), Value.slice none (0 : Nat) (0 : Nat), Value.int IntKind.i64 (0 : Int)]) ∧
     LetW (setRow w17 { block := b9, off := (0 : Nat) } (0 : Nat) [Value.int IntKind.i64 (0 : Int), Value.slice none (0 : Nat) (0 : Nat), Value.int IntKind.i64 (0 : Int)]) fun w26 =>
     ∃ n27 : Int,
     ∃ p28 : Option Addr,
     ∃ k29 : Nat,
     ∃ k30 : Nat,
     ∃ n31 : Int,
     (
      Row w26 { block := b9, off := (0 : Nat) } (0 : Nat) [Value.int IntKind.i64 n27, Value.slice p28 k29 k30, Value.int IntKind.i64 n31]) ∧
     R (Ending.returned (Value.tuple #[Value.agg #[Value.int IntKind.i64 n27, Value.slice p28 k29 k30, Value.int IntKind.i64 n31], Value.int IntKind.i64 (62 : Int)])) w26)
    (
     ∃ n32 : Int,
     (
      w17.cell? { block := b7, off := (0 : Nat) } = some (Value.int IntKind.i64 n32)) ∧
     LetI (IntKind.i64.wrap (n32 + (1 : Int))) fun n33 =>
     ∃ p34 : Option Addr,
     ∃ k35 : Nat,
     ∃ k36 : Nat,
     (
      w17.cell? { block := b7, off := (1 : Nat) } = some (Value.slice p34 k35 k36)) ∧
     RunsV Try.prog (Builtin.append_ #[(35 : Nat), (35 : Nat)] (35 : Nat) #[Value.slice none (0 : Nat) (0 : Nat), Value.slice p34 k35 k36]) w17 fun v37 w38 =>
     ∃ p39 : Option Addr,
     ∃ k40 : Nat,
     ∃ k41 : Nat,
     (
      v37 = Value.slice p39 k40 k41) ∧
     (
      w38.cell? { block := b7, off := (0 : Nat) } = some (Value.int IntKind.i64 n32)) ∧
     (
      WrRow w38 { block := b9, off := (0 : Nat) } (0 : Nat) [Value.int IntKind.i64 n33, Value.slice p39 k40 k41, Value.int IntKind.i64 n6]) ∧
     LetW (setRow w38 { block := b9, off := (0 : Nat) } (0 : Nat) [Value.int IntKind.i64 n33, Value.slice p39 k40 k41, Value.int IntKind.i64 n6]) fun w42 =>
     ∃ n43 : Int,
     ∃ p44 : Option Addr,
     ∃ k45 : Nat,
     ∃ k46 : Nat,
     ∃ n47 : Int,
     (
      Row w42 { block := b9, off := (0 : Nat) } (0 : Nat) [Value.int IntKind.i64 n43, Value.slice p44 k45 k46, Value.int IntKind.i64 n47]) ∧
     R (Ending.returned (Value.tuple #[Value.agg #[Value.int IntKind.i64 n43, Value.slice p44 k45 k46, Value.int IntKind.i64 n47], Value.int IntKind.i64 (0 : Int)])) w42))
theorem rdrain_ok (n1 : Int) (p2 : Option Addr) (k3 : Nat) (k4 : Nat) (n5 : Int) (n6 : Int) (w : World) (R : Ending → World → Prop) (h : rdrain n1 p2 k3 k4 n5 n6 w R) : Ca Try.prog 32 #[Value.agg #[Value.int IntKind.i64 n1, Value.slice p2 k3 k4, Value.int IntKind.i64 n5], Value.int IntKind.i64 n6] w R :=
  Ca.of_fvc (c := bodyOf Try.f32) (by kernel_rfl) Try.func32 (by kernel_rfl) [] (Eq.mp (by kernel_rfl) h)

def rnumbers (s1 : ByteArray) (w : World) (R : Ending → World → Prop) : Prop :=
 ∃ I2 : Nat → List Value → World → Prop,
 (
  ∃ k3 : Nat,
  I2 k3 [Value.slice none (0 : Nat) (0 : Nat), Value.slice none (0 : Nat) (0 : Nat), Value.string s1] w) ∧
 ∀ p4 : Option Addr,
 ∀ k5 : Nat,
 ∀ k6 : Nat,
 ∀ p7 : Option Addr,
 ∀ k8 : Nat,
 ∀ k9 : Nat,
 ∀ s10 : ByteArray,
 ∀ k11 : Nat,
 ∀ w12 : World,
 (
  I2 k11 [Value.slice p4 k5 k6, Value.slice p7 k8 k9, Value.string s10] w12) →
 Br (decide ((↑s10.size : Int) > (0 : Int)))
  (
   Ca Try.prog (60 : Nat) #[Value.string s10] w12 fun e13 w14 =>
   ∃ n15 : Int,
   ∃ s16 : ByteArray,
   ∃ b17 : Bool,
   (
    e13 = Ending.returned (Value.tuple #[Value.int IntKind.i64 n15, Value.string s16, Value.bool b17])) ∧
   Br (!b17)
    (
     R (Ending.returned (Value.slice none (0 : Nat) (0 : Nat))) w14)
    (
     LetA (Obj.cells #[Value.int IntKind.i64 n15] (3 : Nat)) w14 fun b18 w19 =>
     RunsV Try.prog (Builtin.append_ #[(83 : Nat), (83 : Nat)] (83 : Nat) #[Value.slice p7 k8 k9, Value.slice (some { block := b18, off := (0 : Nat) }) (1 : Nat) (1 : Nat)]) w19 fun v20 w21 =>
     ∃ p22 : Option Addr,
     ∃ k23 : Nat,
     ∃ k24 : Nat,
     (
      v20 = Value.slice p22 k23 k24) ∧
     ∃ k25 : Nat,
     (
      k25 < k11) ∧
     I2 k25 [Value.slice p4 k5 k6, Value.slice p22 k23 k24, Value.string s16] w21))
  (
   R (Ending.returned (Value.slice p7 k8 k9)) w12)
theorem rnumbers_ok (s1 : ByteArray) (w : World) (R : Ending → World → Prop) (h : rnumbers s1 w R) : Ca Try.prog 72 #[Value.string s1] w R :=
  Ca.of_fvc (c := bodyOf Try.f72) (by kernel_rfl) Try.func72 (by kernel_rfl) [] (Eq.mp (by kernel_rfl) h)

def rcput (n1 : Int) (p2 : Option Addr) (k3 : Nat) (k4 : Nat) (n5 : Int) (w : World) (R : Ending → World → Prop) : Prop :=
 LetA (Obj.cells #[Value.int IntKind.i64 n1, Value.slice p2 k3 k4, Value.int IntKind.i64 n5] (37 : Nat)) w fun b6 w7 =>
 ∃ n8 : Int,
 ∃ p9 : Option Addr,
 ∃ k10 : Nat,
 ∃ k11 : Nat,
 ∃ n12 : Int,
 (
  Row w7 { block := b6, off := (0 : Nat) } (0 : Nat) [Value.int IntKind.i64 n8, Value.slice p9 k10 k11, Value.int IntKind.i64 n12]) ∧
 Ca Try.prog (64 : Nat) #[Value.agg #[Value.int IntKind.i64 n8, Value.slice p9 k10 k11, Value.int IntKind.i64 n12]] w7 fun e13 w14 =>
 ∃ n15 : Int,
 (
  e13 = Ending.returned (Value.int IntKind.i64 n15)) ∧
 Br (n15 != (0 : Int))
  (
   R (Ending.returned (Value.tuple #[Value.string { data := #[] }, Value.int IntKind.i64 (2 : Int)])) w14)
  (
   ∃ n16 : Int,
   (
    w14.cell? { block := b6, off := (0 : Nat) } = some (Value.int IntKind.i64 n16)) ∧
   ∃ p17 : Option Addr,
   ∃ k18 : Nat,
   ∃ k19 : Nat,
   (
    w14.cell? { block := b6, off := (1 : Nat) } = some (Value.slice p17 k18 k19)) ∧
   Ca Try.prog (56 : Nat) #[Value.int IntKind.i64 n16] w14 fun e20 w21 =>
   ∃ s22 : ByteArray,
   (
    e20 = Ending.returned (Value.string s22)) ∧
   (
    w21.cell? { block := b6, off := (1 : Nat) } = some (Value.slice p17 k18 k19)) ∧
   Ca Try.prog (56 : Nat) #[Value.int IntKind.i64 (↑k18 : Int)] w21 fun e23 w24 =>
   ∃ s25 : ByteArray,
   (
    e23 = Ending.returned (Value.string s25)) ∧
   (
    (↑(s22.size + s25.size) : Int) ≤ IntKind.i64.max) ∧
   ∃ I26 : Nat → List Value → World → Prop,
   (
    ∃ k27 : Nat,
    I26 k27 [Value.string (s22 ++ s25), Value.int IntKind.i64 (0 : Int)] w24) ∧
   ∀ s28 : ByteArray,
   ∀ n29 : Int,
   ∀ k30 : Nat,
   ∀ w31 : World,
   (
    I26 k30 [Value.string s28, Value.int IntKind.i64 n29] w31) →
   ∃ p32 : Option Addr,
   ∃ k33 : Nat,
   ∃ k34 : Nat,
   (
    w31.cell? { block := b6, off := (1 : Nat) } = some (Value.slice p32 k33 k34)) ∧
   Br (decide (n29 < (↑k33 : Int)))
    (
     ∃ p35 : Option Addr,
     ∃ k36 : Nat,
     ∃ k37 : Nat,
     (
      w31.cell? { block := b6, off := (1 : Nat) } = some (Value.slice p35 k36 k37)) ∧
     NilOk p35 fun a38 =>
     (
      (
       (0 : Int) ≤ n29) ∧
      n29 < (↑k36 : Int)) ∧
     ∃ n39 : Int,
     (
      w31.cell? (a38.add (n29.toNat * (2 : Nat))) = some (Value.int IntKind.i64 n39)) ∧
     ∃ p40 : Option Addr,
     ∃ k41 : Nat,
     ∃ k42 : Nat,
     (
      w31.cell? { block := b6, off := (1 : Nat) } = some (Value.slice p40 k41 k42)) ∧
     NilOk p40 fun a43 =>
     (
      (
       (0 : Int) ≤ n29) ∧
      n29 < (↑k41 : Int)) ∧
     ∃ n44 : Int,
     (
      w31.cell? ((a43.add (n29.toNat * (2 : Nat))).add (1 : Nat)) = some (Value.int IntKind.i64 n44)) ∧
     Ca Try.prog (56 : Nat) #[Value.int IntKind.i64 n39] w31 fun e45 w46 =>
     ∃ s47 : ByteArray,
     (
      e45 = Ending.returned (Value.string s47)) ∧
     (
      w46.cell? ((a43.add (n29.toNat * (2 : Nat))).add (1 : Nat)) = some (Value.int IntKind.i64 n44)) ∧
     (
      w46.cell? { block := b6, off := (1 : Nat) } = some (Value.slice p40 k41 k42)) ∧
     (
      (↑(s28.size + s47.size) : Int) ≤ IntKind.i64.max) ∧
     Ca Try.prog (56 : Nat) #[Value.int IntKind.i64 n44] w46 fun e48 w49 =>
     ∃ s50 : ByteArray,
     (
      e48 = Ending.returned (Value.string s50)) ∧
     (
      (↑((s28 ++ s47).size + s50.size) : Int) ≤ IntKind.i64.max) ∧
     LetI (IntKind.i64.wrap (n29 + (1 : Int))) fun n51 =>
     ∃ k52 : Nat,
     (
      k52 < k30) ∧
     I26 k52 [Value.string (s28 ++ s47 ++ s50), Value.int IntKind.i64 n51] w49)
    (
     ∃ n53 : Int,
     (
      w31.cell? { block := b6, off := (2 : Nat) } = some (Value.int IntKind.i64 n53)) ∧
     Ca Try.prog (56 : Nat) #[Value.int IntKind.i64 n53] w31 fun e54 w55 =>
     ∃ s56 : ByteArray,
     (
      e54 = Ending.returned (Value.string s56)) ∧
     (
      (↑(s28.size + s56.size) : Int) ≤ IntKind.i64.max) ∧
     R (Ending.returned (Value.tuple #[Value.string (s28 ++ s56), Value.int IntKind.i64 (0 : Int)])) w55))
theorem rcput_ok (n1 : Int) (p2 : Option Addr) (k3 : Nat) (k4 : Nat) (n5 : Int) (w : World) (R : Ending → World → Prop) (h : rcput n1 p2 k3 k4 n5 w R) : Ca Try.prog 73 #[Value.agg #[Value.int IntKind.i64 n1, Value.slice p2 k3 k4, Value.int IntKind.i64 n5]] w R :=
  Ca.of_fvc (c := bodyOf Try.f73) (by kernel_rfl) Try.func73 (by kernel_rfl) [] (Eq.mp (by kernel_rfl) h)

def rcget (s1 : ByteArray) (w : World) (R : Ending → World → Prop) : Prop :=
 LetA (Obj.cells #[Value.int IntKind.i64 (0 : Int), Value.slice none (0 : Nat) (0 : Nat), Value.int IntKind.i64 (0 : Int)] (37 : Nat)) w fun b2 w3 =>
 Ca Try.prog (72 : Nat) #[Value.string s1] w3 fun e4 w5 =>
 ∃ p6 : Option Addr,
 ∃ k7 : Nat,
 ∃ k8 : Nat,
 (
  e4 = Ending.returned (Value.slice p6 k7 k8)) ∧
 Br (decide ((↑k7 : Int) < (5 : Int)))
  (
   (
    WrRow w5 { block := b2, off := (0 : Nat) } (0 : Nat) [Value.int IntKind.i64 (0 : Int), Value.slice none (0 : Nat) (0 : Nat), Value.int IntKind.i64 (0 : Int)]) ∧
   LetW (setRow w5 { block := b2, off := (0 : Nat) } (0 : Nat) [Value.int IntKind.i64 (0 : Int), Value.slice none (0 : Nat) (0 : Nat), Value.int IntKind.i64 (0 : Int)]) fun w9 =>
   ∃ n10 : Int,
   ∃ p11 : Option Addr,
   ∃ k12 : Nat,
   ∃ k13 : Nat,
   ∃ n14 : Int,
   (
    Row w9 { block := b2, off := (0 : Nat) } (0 : Nat) [Value.int IntKind.i64 n10, Value.slice p11 k12 k13, Value.int IntKind.i64 n14]) ∧
   R (Ending.returned (Value.tuple #[Value.agg #[Value.int IntKind.i64 n10, Value.slice p11 k12 k13, Value.int IntKind.i64 n14], Value.int IntKind.i64 (10 : Int)])) w9)
  (
   (
    (2 : Int) ≠ (0 : Int)) ∧
   LetI ((↑k7 : Int).tmod (2 : Int)) fun n15 =>
   Br (n15 == (0 : Int))
    (
     (
      WrRow w5 { block := b2, off := (0 : Nat) } (0 : Nat) [Value.int IntKind.i64 (0 : Int), Value.slice none (0 : Nat) (0 : Nat), Value.int IntKind.i64 (0 : Int)]) ∧
     LetW (setRow w5 { block := b2, off := (0 : Nat) } (0 : Nat) [Value.int IntKind.i64 (0 : Int), Value.slice none (0 : Nat) (0 : Nat), Value.int IntKind.i64 (0 : Int)]) fun w16 =>
     ∃ n17 : Int,
     ∃ p18 : Option Addr,
     ∃ k19 : Nat,
     ∃ k20 : Nat,
     ∃ n21 : Int,
     (
      Row w16 { block := b2, off := (0 : Nat) } (0 : Nat) [Value.int IntKind.i64 n17, Value.slice p18 k19 k20, Value.int IntKind.i64 n21]) ∧
     R (Ending.returned (Value.tuple #[Value.agg #[Value.int IntKind.i64 n17, Value.slice p18 k19 k20, Value.int IntKind.i64 n21], Value.int IntKind.i64 (10 : Int)])) w16)
    (
     NilOk p6 fun a22 =>
     (
      (
       (0 : Int) ≤ (0 : Int)) ∧
      (0 : Int) < (↑k7 : Int)) ∧
     ∃ n23 : Int,
     (
      w5.cell? a22 = some (Value.int IntKind.i64 n23)) ∧
     LetI (IntKind.i64.wrap ((↑k7 : Int) - (1 : Int))) fun n24 =>
     NilOk p6 fun a25 =>
     (
      (
       (0 : Int) ≤ n24) ∧
      n24 < (↑k7 : Int)) ∧
     ∃ n26 : Int,
     (
      w5.cell? (a25.add (n24.toNat * (1 : Nat))) = some (Value.int IntKind.i64 n26)) ∧
     LetA (Obj.cells #[Value.int IntKind.i64 (0 : Int), Value.slice none (0 : Nat) (0 : Nat), Value.int IntKind.i64 (0 : Int)] (37 : Nat)) w5 fun b27 w28 =>
     (
      w28.cell? (a25.add (n24.toNat * (1 : Nat))) = some (Value.int IntKind.i64 n26)) ∧
     (
      w28.cell? a22 = some (Value.int IntKind.i64 n23)) ∧
     (
      WrRow w28 { block := b27, off := (0 : Nat) } (0 : Nat) [Value.int IntKind.i64 n23, Value.slice none (0 : Nat) (0 : Nat), Value.int IntKind.i64 n26]) ∧
     LetW (setRow w28 { block := b27, off := (0 : Nat) } (0 : Nat) [Value.int IntKind.i64 n23, Value.slice none (0 : Nat) (0 : Nat), Value.int IntKind.i64 n26]) fun w29 =>
     ∃ I30 : Nat → List Value → World → Prop,
     (
      ∃ k31 : Nat,
      I30 k31 [Value.int IntKind.i64 (2 : Int)] w29) ∧
     ∀ n32 : Int,
     ∀ k33 : Nat,
     ∀ w34 : World,
     (
      I30 k33 [Value.int IntKind.i64 n32] w34) →
     LetI (IntKind.i64.wrap (n32 + (1 : Int))) fun n35 =>
     Br (decide (n35 < (↑k7 : Int)))
      (
       ∃ p36 : Option Addr,
       ∃ k37 : Nat,
       ∃ k38 : Nat,
       (
        w34.cell? { block := b27, off := (1 : Nat) } = some (Value.slice p36 k37 k38)) ∧
       NilOk p6 fun a39 =>
       (
        (
         (0 : Int) ≤ n32) ∧
        n32 < (↑k7 : Int)) ∧
       ∃ n40 : Int,
       (
        w34.cell? (a39.add (n32.toNat * (1 : Nat))) = some (Value.int IntKind.i64 n40)) ∧
       LetI (IntKind.i64.wrap (n32 + (1 : Int))) fun n41 =>
       NilOk p6 fun a42 =>
       (
        (
         (0 : Int) ≤ n41) ∧
        n41 < (↑k7 : Int)) ∧
       ∃ n43 : Int,
       (
        w34.cell? (a42.add (n41.toNat * (1 : Nat))) = some (Value.int IntKind.i64 n43)) ∧
       LetA (Obj.cells #[Value.int IntKind.i64 n40, Value.int IntKind.i64 n43] (43 : Nat)) w34 fun b44 w45 =>
       (
        w45.cell? { block := b27, off := (1 : Nat) } = some (Value.slice p36 k37 k38)) ∧
       RunsV Try.prog (Builtin.append_ #[(35 : Nat), (35 : Nat)] (35 : Nat) #[Value.slice p36 k37 k38, Value.slice (some { block := b44, off := (0 : Nat) }) (1 : Nat) (1 : Nat)]) w45 fun v46 w47 =>
       ∃ p48 : Option Addr,
       ∃ k49 : Nat,
       ∃ k50 : Nat,
       (
        v46 = Value.slice p48 k49 k50) ∧
       (
        Wr w47 { block := b27, off := (1 : Nat) }) ∧
       LetW (w47.setCell { block := b27, off := (1 : Nat) } (Value.slice p48 k49 k50)) fun w51 =>
       LetI (IntKind.i64.wrap (n32 + (2 : Int))) fun n52 =>
       ∃ k53 : Nat,
       (
        k53 < k33) ∧
       I30 k53 [Value.int IntKind.i64 n52] w51)
      (
       ∃ n54 : Int,
       ∃ p55 : Option Addr,
       ∃ k56 : Nat,
       ∃ k57 : Nat,
       ∃ n58 : Int,
       (
        Row w34 { block := b27, off := (0 : Nat) } (0 : Nat) [Value.int IntKind.i64 n54, Value.slice p55 k56 k57, Value.int IntKind.i64 n58]) ∧
       Ca Try.prog (73 : Nat) #[Value.agg #[Value.int IntKind.i64 n54, Value.slice p55 k56 k57, Value.int IntKind.i64 n58]] w34 fun e59 w60 =>
       ∃ s61 : ByteArray,
       ∃ n62 : Int,
       (
        e59 = Ending.returned (Value.tuple #[Value.string s61, Value.int IntKind.i64 n62])) ∧
       Br (n62 != (0 : Int))
        (
         (
          WrRow w60 { block := b2, off := (0 : Nat) } (0 : Nat) [Value.int IntKind.i64 (0 : Int), Value.slice none (0 : Nat) (0 : Nat), Value.int IntKind.i64 (0 : Int)]) ∧
         LetW (setRow w60 { block := b2, off := (0 : Nat) } (0 : Nat) [Value.int IntKind.i64 (0 : Int), Value.slice none (0 : Nat) (0 : Nat), Value.int IntKind.i64 (0 : Int)]) fun w63 =>
         ∃ n64 : Int,
         ∃ p65 : Option Addr,
         ∃ k66 : Nat,
         ∃ k67 : Nat,
         ∃ n68 : Int,
         (
          Row w63 { block := b2, off := (0 : Nat) } (0 : Nat) [Value.int IntKind.i64 n64, Value.slice p65 k66 k67, Value.int IntKind.i64 n68]) ∧
         R (Ending.returned (Value.tuple #[Value.agg #[Value.int IntKind.i64 n64, Value.slice p65 k66 k67, Value.int IntKind.i64 n68], Value.int IntKind.i64 (10 : Int)])) w63)
        (
         Br (!s61.toList == s1.toList)
          (
           (
            WrRow w60 { block := b2, off := (0 : Nat) } (0 : Nat) [Value.int IntKind.i64 (0 : Int), Value.slice none (0 : Nat) (0 : Nat), Value.int IntKind.i64 (0 : Int)]) ∧
           LetW (setRow w60 { block := b2, off := (0 : Nat) } (0 : Nat) [Value.int IntKind.i64 (0 : Int), Value.slice none (0 : Nat) (0 : Nat), Value.int IntKind.i64 (0 : Int)]) fun w69 =>
           ∃ n70 : Int,
           ∃ p71 : Option Addr,
           ∃ k72 : Nat,
           ∃ k73 : Nat,
           ∃ n74 : Int,
           (
            Row w69 { block := b2, off := (0 : Nat) } (0 : Nat) [Value.int IntKind.i64 n70, Value.slice p71 k72 k73, Value.int IntKind.i64 n74]) ∧
           R (Ending.returned (Value.tuple #[Value.agg #[Value.int IntKind.i64 n70, Value.slice p71 k72 k73, Value.int IntKind.i64 n74], Value.int IntKind.i64 (10 : Int)])) w69)
          (
           ∃ n75 : Int,
           ∃ p76 : Option Addr,
           ∃ k77 : Nat,
           ∃ k78 : Nat,
           ∃ n79 : Int,
           (
            Row w60 { block := b27, off := (0 : Nat) } (0 : Nat) [Value.int IntKind.i64 n75, Value.slice p76 k77 k78, Value.int IntKind.i64 n79]) ∧
           (
            WrRow w60 { block := b2, off := (0 : Nat) } (0 : Nat) [Value.int IntKind.i64 n75, Value.slice p76 k77 k78, Value.int IntKind.i64 n79]) ∧
           LetW (setRow w60 { block := b2, off := (0 : Nat) } (0 : Nat) [Value.int IntKind.i64 n75, Value.slice p76 k77 k78, Value.int IntKind.i64 n79]) fun w80 =>
           ∃ n81 : Int,
           ∃ p82 : Option Addr,
           ∃ k83 : Nat,
           ∃ k84 : Nat,
           ∃ n85 : Int,
           (
            Row w80 { block := b2, off := (0 : Nat) } (0 : Nat) [Value.int IntKind.i64 n81, Value.slice p82 k83 k84, Value.int IntKind.i64 n85]) ∧
           R (Ending.returned (Value.tuple #[Value.agg #[Value.int IntKind.i64 n81, Value.slice p82 k83 k84, Value.int IntKind.i64 n85], Value.int IntKind.i64 (0 : Int)])) w80)))))
theorem rcget_ok (s1 : ByteArray) (w : World) (R : Ending → World → Prop) (h : rcget s1 w R) : Ca Try.prog 42 #[Value.string s1] w R :=
  Ca.of_fvc (c := bodyOf Try.f42) (by kernel_rfl) Try.func42 (by kernel_rfl) [] (Eq.mp (by kernel_rfl) h)

def rcsame (n1 : Int) (p2 : Option Addr) (k3 : Nat) (k4 : Nat) (n5 : Int) (n6 : Int) (p7 : Option Addr) (k8 : Nat) (k9 : Nat) (n10 : Int) (w : World) (R : Ending → World → Prop) : Prop :=
 LetA (Obj.cells #[Value.int IntKind.i64 n1, Value.slice p2 k3 k4, Value.int IntKind.i64 n5] (37 : Nat)) w fun b11 w12 =>
 LetA (Obj.cells #[Value.int IntKind.i64 n6, Value.slice p7 k8 k9, Value.int IntKind.i64 n10] (37 : Nat)) w12 fun b13 w14 =>
 ∃ n15 : Int,
 (
  w14.cell? { block := b11, off := (0 : Nat) } = some (Value.int IntKind.i64 n15)) ∧
 ∃ n16 : Int,
 (
  w14.cell? { block := b13, off := (0 : Nat) } = some (Value.int IntKind.i64 n16)) ∧
 Br (n15 != n16)
  (
   R (Ending.returned (Value.bool false)) w14)
  (
   ∃ n17 : Int,
   (
    w14.cell? { block := b11, off := (2 : Nat) } = some (Value.int IntKind.i64 n17)) ∧
   ∃ n18 : Int,
   (
    w14.cell? { block := b13, off := (2 : Nat) } = some (Value.int IntKind.i64 n18)) ∧
   Br (n17 != n18)
    (
     R (Ending.returned (Value.bool false)) w14)
    (
     ∃ p19 : Option Addr,
     ∃ k20 : Nat,
     ∃ k21 : Nat,
     (
      w14.cell? { block := b11, off := (1 : Nat) } = some (Value.slice p19 k20 k21)) ∧
     ∃ p22 : Option Addr,
     ∃ k23 : Nat,
     ∃ k24 : Nat,
     (
      w14.cell? { block := b13, off := (1 : Nat) } = some (Value.slice p22 k23 k24)) ∧
     Br ((↑k20 : Int) != (↑k23 : Int))
      (
       R (Ending.returned (Value.bool false)) w14)
      (
       ∃ I25 : Nat → List Value → World → Prop,
       (
        ∃ k26 : Nat,
        I25 k26 [Value.bool false, Value.int IntKind.i64 (0 : Int)] w14) ∧
       ∀ b27 : Bool,
       ∀ n28 : Int,
       ∀ k29 : Nat,
       ∀ w30 : World,
       (
        I25 k29 [Value.bool b27, Value.int IntKind.i64 n28] w30) →
       ∃ p31 : Option Addr,
       ∃ k32 : Nat,
       ∃ k33 : Nat,
       (
        w30.cell? { block := b11, off := (1 : Nat) } = some (Value.slice p31 k32 k33)) ∧
       Br (decide (n28 < (↑k32 : Int)))
        (
         ∃ p34 : Option Addr,
         ∃ k35 : Nat,
         ∃ k36 : Nat,
         (
          w30.cell? { block := b11, off := (1 : Nat) } = some (Value.slice p34 k35 k36)) ∧
         NilOk p34 fun a37 =>
         (
          (
           (0 : Int) ≤ n28) ∧
          n28 < (↑k35 : Int)) ∧
         ∃ n38 : Int,
         ∃ n39 : Int,
         (
          Row w30 (a37.add (n28.toNat * (2 : Nat))) (0 : Nat) [Value.int IntKind.i64 n38, Value.int IntKind.i64 n39]) ∧
         ∃ p40 : Option Addr,
         ∃ k41 : Nat,
         ∃ k42 : Nat,
         (
          w30.cell? { block := b13, off := (1 : Nat) } = some (Value.slice p40 k41 k42)) ∧
         NilOk p40 fun a43 =>
         (
          (
           (0 : Int) ≤ n28) ∧
          n28 < (↑k41 : Int)) ∧
         ∃ n44 : Int,
         ∃ n45 : Int,
         (
          Row w30 (a43.add (n28.toNat * (2 : Nat))) (0 : Nat) [Value.int IntKind.i64 n44, Value.int IntKind.i64 n45]) ∧
         Br (!(n38 == n44 && (n39 == n45 && true)))
          (
           R (Ending.returned (Value.bool false)) w30)
          (
           LetI (IntKind.i64.wrap (n28 + (1 : Int))) fun n46 =>
           ∃ k47 : Nat,
           (
            k47 < k29) ∧
           I25 k47 [Value.bool b27, Value.int IntKind.i64 n46] w30))
        (
         R (Ending.returned (Value.bool true)) w30))))
theorem rcsame_ok (n1 : Int) (p2 : Option Addr) (k3 : Nat) (k4 : Nat) (n5 : Int) (n6 : Int) (p7 : Option Addr) (k8 : Nat) (k9 : Nat) (n10 : Int) (w : World) (R : Ending → World → Prop) (h : rcsame n1 p2 k3 k4 n5 n6 p7 k8 k9 n10 w R) : Ca Try.prog 33 #[Value.agg #[Value.int IntKind.i64 n1, Value.slice p2 k3 k4, Value.int IntKind.i64 n5], Value.agg #[Value.int IntKind.i64 n6, Value.slice p7 k8 k9, Value.int IntKind.i64 n10]] w R :=
  Ca.of_fvc (c := bodyOf Try.f33) (by kernel_rfl) Try.func33 (by kernel_rfl) [] (Eq.mp (by kernel_rfl) h)

end Go.Proofs.Ytbdhdjbdooccoaa
