/- The verification conditions of this seat's functions, printed by a program; the kernel holds each against the loaded code. -/
import Derived.Test.YtbdhdjbdooccoaaProg
import Derived.KernelRfl
import Derived.Test.YtbdhdjbdooccoaaV5
import Derived.Test.YtbdhdjbdooccoaaD
set_option maxRecDepth 100000
namespace Go.Proofs.Ytbdhdjbdooccoaa
open Go Go.Vc Go.Proofs
def valued_ (n1 : Int) (w : World) (R : Ending → World → Prop) : Prop :=
 Br (n1 == (2 : Int))
  (
   R (Ending.returned (Value.bool true)) w)
  (
   R (Ending.returned (Value.bool (n1 == (4 : Int)))) w)
theorem valued__ok (n1 : Int) (w : World) (R : Ending → World → Prop) (h : valued_ n1 w R) : Ca Try.prog 55 #[Value.int IntKind.i64 n1] w R :=
  Ca.of_fvc (c := bodyOf Try.f55) (by kernel_rfl) Try.func55 (by kernel_rfl) [] (Eq.mp (by kernel_rfl) h)

def ocheck (n1 : Int) (s2 : ByteArray) (s3 : ByteArray) (n4 : Int) (w : World) (R : Ending → World → Prop) : Prop :=
 LetA (Obj.cells #[Value.int IntKind.i64 n1, Value.string s2, Value.string s3, Value.int IntKind.i64 n4] (23 : Nat)) w fun b5 w6 =>
 ∃ n7 : Int,
 (
  w6.cell? { block := b5, off := (0 : Nat) } = some (Value.int IntKind.i64 n7)) ∧
 Br (decide (n7 < (1 : Int)))
  (
   R (Ending.returned (Value.int IntKind.i64 (2 : Int))) w6)
  (
   ∃ n8 : Int,
   (
    w6.cell? { block := b5, off := (0 : Nat) } = some (Value.int IntKind.i64 n8)) ∧
   Br (decide (n8 > (4 : Int)))
    (
     Br (decide (n8 > (4 : Int)))
      (
       R (Ending.returned (Value.int IntKind.i64 (2 : Int))) w6)
      (
       ∃ s9 : ByteArray,
       (
        w6.cell? { block := b5, off := (1 : Nat) } = some (Value.string s9)) ∧
       Br (decide ((↑s9.size : Int) > (16 : Int)))
        (
         Br (decide ((↑s9.size : Int) > (16 : Int)))
          (
           R (Ending.returned (Value.int IntKind.i64 (3 : Int))) w6)
          (
           R (Ending.returned (Value.int IntKind.i64 (0 : Int))) w6))
        (
         ∃ s10 : ByteArray,
         (
          w6.cell? { block := b5, off := (2 : Nat) } = some (Value.string s10)) ∧
         Br (decide ((↑s10.size : Int) > (64 : Int)))
          (
           R (Ending.returned (Value.int IntKind.i64 (3 : Int))) w6)
          (
           R (Ending.returned (Value.int IntKind.i64 (0 : Int))) w6))))
    (
     ∃ s11 : ByteArray,
     (
      w6.cell? { block := b5, off := (1 : Nat) } = some (Value.string s11)) ∧
     Br (s11.toList == [])
      (
       Br (s11.toList == [])
        (
         R (Ending.returned (Value.int IntKind.i64 (2 : Int))) w6)
        (
         ∃ s12 : ByteArray,
         (
          w6.cell? { block := b5, off := (1 : Nat) } = some (Value.string s12)) ∧
         Br (decide ((↑s12.size : Int) > (16 : Int)))
          (
           Br (decide ((↑s12.size : Int) > (16 : Int)))
            (
             R (Ending.returned (Value.int IntKind.i64 (3 : Int))) w6)
            (
             R (Ending.returned (Value.int IntKind.i64 (0 : Int))) w6))
          (
           ∃ s13 : ByteArray,
           (
            w6.cell? { block := b5, off := (2 : Nat) } = some (Value.string s13)) ∧
           Br (decide ((↑s13.size : Int) > (64 : Int)))
            (
             R (Ending.returned (Value.int IntKind.i64 (3 : Int))) w6)
            (
             R (Ending.returned (Value.int IntKind.i64 (0 : Int))) w6))))
      (
       ∃ n14 : Int,
       (
        w6.cell? { block := b5, off := (3 : Nat) } = some (Value.int IntKind.i64 n14)) ∧
       Br (decide (n14 < (0 : Int)))
        (
         R (Ending.returned (Value.int IntKind.i64 (2 : Int))) w6)
        (
         ∃ n15 : Int,
         (
          w6.cell? { block := b5, off := (3 : Nat) } = some (Value.int IntKind.i64 n15)) ∧
         Br (decide (n15 > (4096 : Int)))
          (
           Br (decide (n15 > (4096 : Int)))
            (
             R (Ending.returned (Value.int IntKind.i64 (2 : Int))) w6)
            (
             ∃ s16 : ByteArray,
             (
              w6.cell? { block := b5, off := (1 : Nat) } = some (Value.string s16)) ∧
             Br (decide ((↑s16.size : Int) > (16 : Int)))
              (
               Br (decide ((↑s16.size : Int) > (16 : Int)))
                (
                 R (Ending.returned (Value.int IntKind.i64 (3 : Int))) w6)
                (
                 R (Ending.returned (Value.int IntKind.i64 (0 : Int))) w6))
              (
               ∃ s17 : ByteArray,
               (
                w6.cell? { block := b5, off := (2 : Nat) } = some (Value.string s17)) ∧
               Br (decide ((↑s17.size : Int) > (64 : Int)))
                (
                 R (Ending.returned (Value.int IntKind.i64 (3 : Int))) w6)
                (
                 R (Ending.returned (Value.int IntKind.i64 (0 : Int))) w6))))
          (
           ∃ n18 : Int,
           (
            w6.cell? { block := b5, off := (3 : Nat) } = some (Value.int IntKind.i64 n18)) ∧
           Br (n18 != (0 : Int))
            (
             ∃ n19 : Int,
             (
              w6.cell? { block := b5, off := (0 : Nat) } = some (Value.int IntKind.i64 n19)) ∧
             Br (n19 != (4 : Int))
              (
               Br (n19 != (4 : Int))
                (
                 R (Ending.returned (Value.int IntKind.i64 (2 : Int))) w6)
                (
                 ∃ s20 : ByteArray,
                 (
                  w6.cell? { block := b5, off := (1 : Nat) } = some (Value.string s20)) ∧
                 Br (decide ((↑s20.size : Int) > (16 : Int)))
                  (
                   Br (decide ((↑s20.size : Int) > (16 : Int)))
                    (
                     R (Ending.returned (Value.int IntKind.i64 (3 : Int))) w6)
                    (
                     R (Ending.returned (Value.int IntKind.i64 (0 : Int))) w6))
                  (
                   ∃ s21 : ByteArray,
                   (
                    w6.cell? { block := b5, off := (2 : Nat) } = some (Value.string s21)) ∧
                   Br (decide ((↑s21.size : Int) > (64 : Int)))
                    (
                     R (Ending.returned (Value.int IntKind.i64 (3 : Int))) w6)
                    (
                     R (Ending.returned (Value.int IntKind.i64 (0 : Int))) w6))))
              (
               ∃ s22 : ByteArray,
               (
                w6.cell? { block := b5, off := (2 : Nat) } = some (Value.string s22)) ∧
               Br (!s22.toList == [])
                (
                 ∃ n23 : Int,
                 (
                  w6.cell? { block := b5, off := (0 : Nat) } = some (Value.int IntKind.i64 n23)) ∧
                 Ca Try.prog (55 : Nat) #[Value.int IntKind.i64 n23] w6 fun e24 w25 =>
                 ∃ b26 : Bool,
                 (
                  e24 = Ending.returned (Value.bool b26)) ∧
                 Br (!b26)
                  (
                   R (Ending.returned (Value.int IntKind.i64 (2 : Int))) w25)
                  (
                   ∃ s27 : ByteArray,
                   (
                    w25.cell? { block := b5, off := (1 : Nat) } = some (Value.string s27)) ∧
                   Br (decide ((↑s27.size : Int) > (16 : Int)))
                    (
                     Br (decide ((↑s27.size : Int) > (16 : Int)))
                      (
                       R (Ending.returned (Value.int IntKind.i64 (3 : Int))) w25)
                      (
                       R (Ending.returned (Value.int IntKind.i64 (0 : Int))) w25))
                    (
                     ∃ s28 : ByteArray,
                     (
                      w25.cell? { block := b5, off := (2 : Nat) } = some (Value.string s28)) ∧
                     Br (decide ((↑s28.size : Int) > (64 : Int)))
                      (
                       R (Ending.returned (Value.int IntKind.i64 (3 : Int))) w25)
                      (
                       R (Ending.returned (Value.int IntKind.i64 (0 : Int))) w25))))
                (
                 ∃ s29 : ByteArray,
                 (
                  w6.cell? { block := b5, off := (1 : Nat) } = some (Value.string s29)) ∧
                 Br (decide ((↑s29.size : Int) > (16 : Int)))
                  (
                   Br (decide ((↑s29.size : Int) > (16 : Int)))
                    (
                     R (Ending.returned (Value.int IntKind.i64 (3 : Int))) w6)
                    (
                     R (Ending.returned (Value.int IntKind.i64 (0 : Int))) w6))
                  (
                   ∃ s30 : ByteArray,
                   (
                    w6.cell? { block := b5, off := (2 : Nat) } = some (Value.string s30)) ∧
                   Br (decide ((↑s30.size : Int) > (64 : Int)))
                    (
                     R (Ending.returned (Value.int IntKind.i64 (3 : Int))) w6)
                    (
                     R (Ending.returned (Value.int IntKind.i64 (0 : Int))) w6)))))
            (
             ∃ s31 : ByteArray,
             (
              w6.cell? { block := b5, off := (2 : Nat) } = some (Value.string s31)) ∧
             Br (!s31.toList == [])
              (
               ∃ n32 : Int,
               (
                w6.cell? { block := b5, off := (0 : Nat) } = some (Value.int IntKind.i64 n32)) ∧
               Ca Try.prog (55 : Nat) #[Value.int IntKind.i64 n32] w6 fun e33 w34 =>
               ∃ b35 : Bool,
               (
                e33 = Ending.returned (Value.bool b35)) ∧
               Br (!b35)
                (
                 R (Ending.returned (Value.int IntKind.i64 (2 : Int))) w34)
                (
                 ∃ s36 : ByteArray,
                 (
                  w34.cell? { block := b5, off := (1 : Nat) } = some (Value.string s36)) ∧
                 Br (decide ((↑s36.size : Int) > (16 : Int)))
                  (
                   Br (decide ((↑s36.size : Int) > (16 : Int)))
                    (
                     R (Ending.returned (Value.int IntKind.i64 (3 : Int))) w34)
                    (
                     R (Ending.returned (Value.int IntKind.i64 (0 : Int))) w34))
                  (
                   ∃ s37 : ByteArray,
                   (
                    w34.cell? { block := b5, off := (2 : Nat) } = some (Value.string s37)) ∧
                   Br (decide ((↑s37.size : Int) > (64 : Int)))
                    (
                     R (Ending.returned (Value.int IntKind.i64 (3 : Int))) w34)
                    (
                     R (Ending.returned (Value.int IntKind.i64 (0 : Int))) w34))))
              (
               ∃ s38 : ByteArray,
               (
                w6.cell? { block := b5, off := (1 : Nat) } = some (Value.string s38)) ∧
               Br (decide ((↑s38.size : Int) > (16 : Int)))
                (
                 Br (decide ((↑s38.size : Int) > (16 : Int)))
                  (
                   R (Ending.returned (Value.int IntKind.i64 (3 : Int))) w6)
                  (
                   R (Ending.returned (Value.int IntKind.i64 (0 : Int))) w6))
                (
                 ∃ s39 : ByteArray,
                 (
                  w6.cell? { block := b5, off := (2 : Nat) } = some (Value.string s39)) ∧
                 Br (decide ((↑s39.size : Int) > (64 : Int)))
                  (
                   R (Ending.returned (Value.int IntKind.i64 (3 : Int))) w6)
                  (
                   R (Ending.returned (Value.int IntKind.i64 (0 : Int))) w6)))))))))
theorem ocheck_ok (n1 : Int) (s2 : ByteArray) (s3 : ByteArray) (n4 : Int) (w : World) (R : Ending → World → Prop) (h : ocheck n1 s2 s3 n4 w R) : Ca Try.prog 18 #[Value.agg #[Value.int IntKind.i64 n1, Value.string s2, Value.string s3, Value.int IntKind.i64 n4]] w R :=
  Ca.of_fvc (c := bodyOf Try.f18) (by kernel_rfl) Try.func18 (by kernel_rfl) [] (Eq.mp (by kernel_rfl) h)

def ocost (n1 : Int) (s2 : ByteArray) (s3 : ByteArray) (n4 : Int) (w : World) (R : Ending → World → Prop) : Prop :=
 LetA (Obj.cells #[Value.int IntKind.i64 n1, Value.string s2, Value.string s3, Value.int IntKind.i64 n4] (23 : Nat)) w fun b5 w6 =>
 ∃ n7 : Int,
 ∃ s8 : ByteArray,
 ∃ s9 : ByteArray,
 ∃ n10 : Int,
 (
  Row w6 { block := b5, off := (0 : Nat) } (0 : Nat) [Value.int IntKind.i64 n7, Value.string s8, Value.string s9, Value.int IntKind.i64 n10]) ∧
 Ca Try.prog (18 : Nat) #[Value.agg #[Value.int IntKind.i64 n7, Value.string s8, Value.string s9, Value.int IntKind.i64 n10]] w6 fun e11 w12 =>
 ∃ n13 : Int,
 (
  e11 = Ending.returned (Value.int IntKind.i64 n13)) ∧
 Br (n13 != (0 : Int))
  (
   R (Ending.returned (Value.int IntKind.i64 (0 : Int))) w12)
  (
   ∃ s14 : ByteArray,
   (
    w12.cell? { block := b5, off := (1 : Nat) } = some (Value.string s14)) ∧
   LetI (IntKind.i64.wrap ((16 : Int) + (↑s14.size : Int))) fun n15 =>
   ∃ s16 : ByteArray,
   (
    w12.cell? { block := b5, off := (2 : Nat) } = some (Value.string s16)) ∧
   LetI (IntKind.i64.wrap (n15 + (↑s16.size : Int))) fun n17 =>
   R (Ending.returned (Value.int IntKind.i64 n17)) w12)
theorem ocost_ok (n1 : Int) (s2 : ByteArray) (s3 : ByteArray) (n4 : Int) (w : World) (R : Ending → World → Prop) (h : ocost n1 s2 s3 n4 w R) : Ca Try.prog 20 #[Value.agg #[Value.int IntKind.i64 n1, Value.string s2, Value.string s3, Value.int IntKind.i64 n4]] w R :=
  Ca.of_fvc (c := bodyOf Try.f20) (by kernel_rfl) Try.func20 (by kernel_rfl) [] (Eq.mp (by kernel_rfl) h)

def oreads (n1 : Int) (s2 : ByteArray) (s3 : ByteArray) (n4 : Int) (w : World) (R : Ending → World → Prop) : Prop :=
 LetA (Obj.cells #[Value.int IntKind.i64 n1, Value.string s2, Value.string s3, Value.int IntKind.i64 n4] (23 : Nat)) w fun b5 w6 =>
 ∃ n7 : Int,
 (
  w6.cell? { block := b5, off := (0 : Nat) } = some (Value.int IntKind.i64 n7)) ∧
 Br (n7 == (1 : Int))
  (
   ∃ n8 : Int,
   ∃ s9 : ByteArray,
   ∃ s10 : ByteArray,
   ∃ n11 : Int,
   (
    Row w6 { block := b5, off := (0 : Nat) } (0 : Nat) [Value.int IntKind.i64 n8, Value.string s9, Value.string s10, Value.int IntKind.i64 n11]) ∧
   Ca Try.prog (18 : Nat) #[Value.agg #[Value.int IntKind.i64 n8, Value.string s9, Value.string s10, Value.int IntKind.i64 n11]] w6 fun e12 w13 =>
   ∃ n14 : Int,
   (
    e12 = Ending.returned (Value.int IntKind.i64 n14)) ∧
   R (Ending.returned (Value.bool (n14 == (0 : Int)))) w13)
  (
   R (Ending.returned (Value.bool false)) w6)
theorem oreads_ok (n1 : Int) (s2 : ByteArray) (s3 : ByteArray) (n4 : Int) (w : World) (R : Ending → World → Prop) (h : oreads n1 s2 s3 n4 w R) : Ca Try.prog 22 #[Value.agg #[Value.int IntKind.i64 n1, Value.string s2, Value.string s3, Value.int IntKind.i64 n4]] w R :=
  Ca.of_fvc (c := bodyOf Try.f22) (by kernel_rfl) Try.func22 (by kernel_rfl) [] (Eq.mp (by kernel_rfl) h)

def oput (n1 : Int) (s2 : ByteArray) (s3 : ByteArray) (n4 : Int) (w : World) (R : Ending → World → Prop) : Prop :=
 LetA (Obj.cells #[Value.int IntKind.i64 n1, Value.string s2, Value.string s3, Value.int IntKind.i64 n4] (23 : Nat)) w fun b5 w6 =>
 ∃ n7 : Int,
 ∃ s8 : ByteArray,
 ∃ s9 : ByteArray,
 ∃ n10 : Int,
 (
  Row w6 { block := b5, off := (0 : Nat) } (0 : Nat) [Value.int IntKind.i64 n7, Value.string s8, Value.string s9, Value.int IntKind.i64 n10]) ∧
 Ca Try.prog (18 : Nat) #[Value.agg #[Value.int IntKind.i64 n7, Value.string s8, Value.string s9, Value.int IntKind.i64 n10]] w6 fun e11 w12 =>
 ∃ n13 : Int,
 (
  e11 = Ending.returned (Value.int IntKind.i64 n13)) ∧
 Br (n13 != (0 : Int))
  (
   R (Ending.returned (Value.tuple #[Value.string { data := #[] }, Value.int IntKind.i64 n13])) w12)
  (
   ∃ n14 : Int,
   (
    w12.cell? { block := b5, off := (0 : Nat) } = some (Value.int IntKind.i64 n14)) ∧
   ∃ s15 : ByteArray,
   (
    w12.cell? { block := b5, off := (1 : Nat) } = some (Value.string s15)) ∧
   Ca Try.prog (53 : Nat) #[Value.int IntKind.i64 n14] w12 fun e16 w17 =>
   ∃ s18 : ByteArray,
   (
    e16 = Ending.returned (Value.string s18)) ∧
   (
    w17.cell? { block := b5, off := (1 : Nat) } = some (Value.string s15)) ∧
   Ca Try.prog (54 : Nat) #[Value.string s15] w17 fun e19 w20 =>
   ∃ s21 : ByteArray,
   (
    e19 = Ending.returned (Value.string s21)) ∧
   (
    (↑(s18.size + s21.size) : Int) ≤ IntKind.i64.max) ∧
   ∃ n22 : Int,
   (
    w20.cell? { block := b5, off := (0 : Nat) } = some (Value.int IntKind.i64 n22)) ∧
   Ca Try.prog (55 : Nat) #[Value.int IntKind.i64 n22] w20 fun e23 w24 =>
   ∃ b25 : Bool,
   (
    e23 = Ending.returned (Value.bool b25)) ∧
   Br (b25)
    (
     ∃ s26 : ByteArray,
     (
      w24.cell? { block := b5, off := (2 : Nat) } = some (Value.string s26)) ∧
     Ca Try.prog (54 : Nat) #[Value.string s26] w24 fun e27 w28 =>
     ∃ s29 : ByteArray,
     (
      e27 = Ending.returned (Value.string s29)) ∧
     (
      (↑((s18 ++ s21).size + s29.size) : Int) ≤ IntKind.i64.max) ∧
     ∃ n30 : Int,
     (
      w28.cell? { block := b5, off := (0 : Nat) } = some (Value.int IntKind.i64 n30)) ∧
     Br (n30 == (4 : Int))
      (
       ∃ n31 : Int,
       (
        w28.cell? { block := b5, off := (3 : Nat) } = some (Value.int IntKind.i64 n31)) ∧
       Ca Try.prog (53 : Nat) #[Value.int IntKind.i64 n31] w28 fun e32 w33 =>
       ∃ s34 : ByteArray,
       (
        e32 = Ending.returned (Value.string s34)) ∧
       (
        (↑((s18 ++ s21 ++ s29).size + s34.size) : Int) ≤ IntKind.i64.max) ∧
       R (Ending.returned (Value.tuple #[Value.string (s18 ++ s21 ++ s29 ++ s34), Value.int IntKind.i64 (0 : Int)])) w33)
      (
       R (Ending.returned (Value.tuple #[Value.string (s18 ++ s21 ++ s29), Value.int IntKind.i64 (0 : Int)])) w28))
    (
     ∃ n35 : Int,
     (
      w24.cell? { block := b5, off := (0 : Nat) } = some (Value.int IntKind.i64 n35)) ∧
     Br (n35 == (4 : Int))
      (
       ∃ n36 : Int,
       (
        w24.cell? { block := b5, off := (3 : Nat) } = some (Value.int IntKind.i64 n36)) ∧
       Ca Try.prog (53 : Nat) #[Value.int IntKind.i64 n36] w24 fun e37 w38 =>
       ∃ s39 : ByteArray,
       (
        e37 = Ending.returned (Value.string s39)) ∧
       (
        (↑((s18 ++ s21).size + s39.size) : Int) ≤ IntKind.i64.max) ∧
       R (Ending.returned (Value.tuple #[Value.string (s18 ++ s21 ++ s39), Value.int IntKind.i64 (0 : Int)])) w38)
      (
       R (Ending.returned (Value.tuple #[Value.string (s18 ++ s21), Value.int IntKind.i64 (0 : Int)])) w24)))
theorem oput_ok (n1 : Int) (s2 : ByteArray) (s3 : ByteArray) (n4 : Int) (w : World) (R : Ending → World → Prop) (h : oput n1 s2 s3 n4 w R) : Ca Try.prog 16 #[Value.agg #[Value.int IntKind.i64 n1, Value.string s2, Value.string s3, Value.int IntKind.i64 n4]] w R :=
  Ca.of_fvc (c := bodyOf Try.f16) (by kernel_rfl) Try.func16 (by kernel_rfl) [] (Eq.mp (by kernel_rfl) h)

def oget (s1 : ByteArray) (w : World) (R : Ending → World → Prop) : Prop :=
 LetA (Obj.cells #[Value.int IntKind.i64 (0 : Int), Value.string { data := #[] }, Value.string { data := #[] }, Value.int IntKind.i64 (0 : Int)] (23 : Nat)) w fun b2 w3 =>
 LetA (Obj.cells #[Value.int IntKind.i64 (0 : Int), Value.string { data := #[] }, Value.string { data := #[] }, Value.int IntKind.i64 (0 : Int)] (23 : Nat)) w3 fun b4 w5 =>
 Ca Try.prog (58 : Nat) #[Value.string s1] w5 fun e6 w7 =>
 ∃ n8 : Int,
 ∃ s9 : ByteArray,
 ∃ b10 : Bool,
 (
  e6 = Ending.returned (Value.tuple #[Value.int IntKind.i64 n8, Value.string s9, Value.bool b10])) ∧
 (
  Wr w7 { block := b4, off := (0 : Nat) }) ∧
 LetW (w7.setCell { block := b4, off := (0 : Nat) } (Value.int IntKind.i64 n8)) fun w11 =>
 Ca Try.prog (59 : Nat) #[Value.string s9] w11 fun e12 w13 =>
 ∃ s14 : ByteArray,
 ∃ s15 : ByteArray,
 ∃ b16 : Bool,
 (
  e12 = Ending.returned (Value.tuple #[Value.string s14, Value.string s15, Value.bool b16])) ∧
 (
  Wr w13 { block := b4, off := (1 : Nat) }) ∧
 LetW (w13.setCell { block := b4, off := (1 : Nat) } (Value.string s14)) fun w17 =>
 ∃ n18 : Int,
 (
  w17.cell? { block := b4, off := (0 : Nat) } = some (Value.int IntKind.i64 n18)) ∧
 Ca Try.prog (55 : Nat) #[Value.int IntKind.i64 n18] w17 fun e19 w20 =>
 ∃ b21 : Bool,
 (
  e19 = Ending.returned (Value.bool b21)) ∧
 Br (b21)
  (
   Ca Try.prog (59 : Nat) #[Value.string s15] w20 fun e22 w23 =>
   ∃ s24 : ByteArray,
   ∃ s25 : ByteArray,
   ∃ b26 : Bool,
   (
    e22 = Ending.returned (Value.tuple #[Value.string s24, Value.string s25, Value.bool b26])) ∧
   (
    Wr w23 { block := b4, off := (2 : Nat) }) ∧
   LetW (w23.setCell { block := b4, off := (2 : Nat) } (Value.string s24)) fun w27 =>
   ∃ n28 : Int,
   (
    w27.cell? { block := b4, off := (0 : Nat) } = some (Value.int IntKind.i64 n28)) ∧
   Br (n28 == (4 : Int))
    (
     Ca Try.prog (58 : Nat) #[Value.string s25] w27 fun e29 w30 =>
     ∃ n31 : Int,
     ∃ s32 : ByteArray,
     ∃ b33 : Bool,
     (
      e29 = Ending.returned (Value.tuple #[Value.int IntKind.i64 n31, Value.string s32, Value.bool b33])) ∧
     (
      Wr w30 { block := b4, off := (3 : Nat) }) ∧
     LetW (w30.setCell { block := b4, off := (3 : Nat) } (Value.int IntKind.i64 n31)) fun w34 =>
     Br (!b10)
      (
       (
        WrRow w34 { block := b2, off := (0 : Nat) } (0 : Nat) [Value.int IntKind.i64 (0 : Int), Value.string { data := #[] }, Value.string { data := #[] }, Value.int IntKind.i64 (0 : Int)]) ∧
       LetW (setRow w34 { block := b2, off := (0 : Nat) } (0 : Nat) [Value.int IntKind.i64 (0 : Int), Value.string { data := #[] }, Value.string { data := #[] }, Value.int IntKind.i64 (0 : Int)]) fun w35 =>
       ∃ n36 : Int,
       ∃ s37 : ByteArray,
       ∃ s38 : ByteArray,
       ∃ n39 : Int,
       (
        Row w35 { block := b2, off := (0 : Nat) } (0 : Nat) [Value.int IntKind.i64 n36, Value.string s37, Value.string s38, Value.int IntKind.i64 n39]) ∧
       R (Ending.returned (Value.tuple #[Value.agg #[Value.int IntKind.i64 n36, Value.string s37, Value.string s38, Value.int IntKind.i64 n39], Value.int IntKind.i64 (10 : Int)])) w35)
      (
       Br (!b16)
        (
         (
          WrRow w34 { block := b2, off := (0 : Nat) } (0 : Nat) [Value.int IntKind.i64 (0 : Int), Value.string { data := #[] }, Value.string { data := #[] }, Value.int IntKind.i64 (0 : Int)]) ∧
         LetW (setRow w34 { block := b2, off := (0 : Nat) } (0 : Nat) [Value.int IntKind.i64 (0 : Int), Value.string { data := #[] }, Value.string { data := #[] }, Value.int IntKind.i64 (0 : Int)]) fun w40 =>
         ∃ n41 : Int,
         ∃ s42 : ByteArray,
         ∃ s43 : ByteArray,
         ∃ n44 : Int,
         (
          Row w40 { block := b2, off := (0 : Nat) } (0 : Nat) [Value.int IntKind.i64 n41, Value.string s42, Value.string s43, Value.int IntKind.i64 n44]) ∧
         R (Ending.returned (Value.tuple #[Value.agg #[Value.int IntKind.i64 n41, Value.string s42, Value.string s43, Value.int IntKind.i64 n44], Value.int IntKind.i64 (10 : Int)])) w40)
        (
         Br (!b26)
          (
           (
            WrRow w34 { block := b2, off := (0 : Nat) } (0 : Nat) [Value.int IntKind.i64 (0 : Int), Value.string { data := #[] }, Value.string { data := #[] }, Value.int IntKind.i64 (0 : Int)]) ∧
           LetW (setRow w34 { block := b2, off := (0 : Nat) } (0 : Nat) [Value.int IntKind.i64 (0 : Int), Value.string { data := #[] }, Value.string { data := #[] }, Value.int IntKind.i64 (0 : Int)]) fun w45 =>
           ∃ n46 : Int,
           ∃ s47 : ByteArray,
           ∃ s48 : ByteArray,
           ∃ n49 : Int,
           (
            Row w45 { block := b2, off := (0 : Nat) } (0 : Nat) [Value.int IntKind.i64 n46, Value.string s47, Value.string s48, Value.int IntKind.i64 n49]) ∧
           R (Ending.returned (Value.tuple #[Value.agg #[Value.int IntKind.i64 n46, Value.string s47, Value.string s48, Value.int IntKind.i64 n49], Value.int IntKind.i64 (10 : Int)])) w45)
          (
           Br (!b33)
            (
             (
              WrRow w34 { block := b2, off := (0 : Nat) } (0 : Nat) [Value.int IntKind.i64 (0 : Int), Value.string { data := #[] }, Value.string { data := #[] }, Value.int IntKind.i64 (0 : Int)]) ∧
             LetW (setRow w34 { block := b2, off := (0 : Nat) } (0 : Nat) [Value.int IntKind.i64 (0 : Int), Value.string { data := #[] }, Value.string { data := #[] }, Value.int IntKind.i64 (0 : Int)]) fun w50 =>
             ∃ n51 : Int,
             ∃ s52 : ByteArray,
             ∃ s53 : ByteArray,
             ∃ n54 : Int,
             (
              Row w50 { block := b2, off := (0 : Nat) } (0 : Nat) [Value.int IntKind.i64 n51, Value.string s52, Value.string s53, Value.int IntKind.i64 n54]) ∧
             R (Ending.returned (Value.tuple #[Value.agg #[Value.int IntKind.i64 n51, Value.string s52, Value.string s53, Value.int IntKind.i64 n54], Value.int IntKind.i64 (10 : Int)])) w50)
            (
             Br (!s32.toList == [])
              (
               (
                WrRow w34 { block := b2, off := (0 : Nat) } (0 : Nat) [Value.int IntKind.i64 (0 : Int), Value.string { data := #[] }, Value.string { data := #[] }, Value.int IntKind.i64 (0 : Int)]) ∧
               LetW (setRow w34 { block := b2, off := (0 : Nat) } (0 : Nat) [Value.int IntKind.i64 (0 : Int), Value.string { data := #[] }, Value.string { data := #[] }, Value.int IntKind.i64 (0 : Int)]) fun w55 =>
               ∃ n56 : Int,
               ∃ s57 : ByteArray,
               ∃ s58 : ByteArray,
               ∃ n59 : Int,
               (
                Row w55 { block := b2, off := (0 : Nat) } (0 : Nat) [Value.int IntKind.i64 n56, Value.string s57, Value.string s58, Value.int IntKind.i64 n59]) ∧
               R (Ending.returned (Value.tuple #[Value.agg #[Value.int IntKind.i64 n56, Value.string s57, Value.string s58, Value.int IntKind.i64 n59], Value.int IntKind.i64 (10 : Int)])) w55)
              (
               ∃ n60 : Int,
               ∃ s61 : ByteArray,
               ∃ s62 : ByteArray,
               ∃ n63 : Int,
               (
                Row w34 { block := b4, off := (0 : Nat) } (0 : Nat) [Value.int IntKind.i64 n60, Value.string s61, Value.string s62, Value.int IntKind.i64 n63]) ∧
               Ca Try.prog (18 : Nat) #[Value.agg #[Value.int IntKind.i64 n60, Value.string s61, Value.string s62, Value.int IntKind.i64 n63]] w34 fun e64 w65 =>
               ∃ n66 : Int,
               (
                e64 = Ending.returned (Value.int IntKind.i64 n66)) ∧
               Br (n66 != (0 : Int))
                (
                 (
                  WrRow w65 { block := b2, off := (0 : Nat) } (0 : Nat) [Value.int IntKind.i64 (0 : Int), Value.string { data := #[] }, Value.string { data := #[] }, Value.int IntKind.i64 (0 : Int)]) ∧
                 LetW (setRow w65 { block := b2, off := (0 : Nat) } (0 : Nat) [Value.int IntKind.i64 (0 : Int), Value.string { data := #[] }, Value.string { data := #[] }, Value.int IntKind.i64 (0 : Int)]) fun w67 =>
                 ∃ n68 : Int,
                 ∃ s69 : ByteArray,
                 ∃ s70 : ByteArray,
                 ∃ n71 : Int,
                 (
                  Row w67 { block := b2, off := (0 : Nat) } (0 : Nat) [Value.int IntKind.i64 n68, Value.string s69, Value.string s70, Value.int IntKind.i64 n71]) ∧
                 R (Ending.returned (Value.tuple #[Value.agg #[Value.int IntKind.i64 n68, Value.string s69, Value.string s70, Value.int IntKind.i64 n71], Value.int IntKind.i64 (10 : Int)])) w67)
                (
                 ∃ n72 : Int,
                 ∃ s73 : ByteArray,
                 ∃ s74 : ByteArray,
                 ∃ n75 : Int,
                 (
                  Row w65 { block := b4, off := (0 : Nat) } (0 : Nat) [Value.int IntKind.i64 n72, Value.string s73, Value.string s74, Value.int IntKind.i64 n75]) ∧
                 (
                  WrRow w65 { block := b2, off := (0 : Nat) } (0 : Nat) [Value.int IntKind.i64 n72, Value.string s73, Value.string s74, Value.int IntKind.i64 n75]) ∧
                 LetW (setRow w65 { block := b2, off := (0 : Nat) } (0 : Nat) [Value.int IntKind.i64 n72, Value.string s73, Value.string s74, Value.int IntKind.i64 n75]) fun w76 =>
                 ∃ n77 : Int,
                 ∃ s78 : ByteArray,
                 ∃ s79 : ByteArray,
                 ∃ n80 : Int,
                 (
                  Row w76 { block := b2, off := (0 : Nat) } (0 : Nat) [Value.int IntKind.i64 n77, Value.string s78, Value.string s79, Value.int IntKind.i64 n80]) ∧
                 R (Ending.returned (Value.tuple #[Value.agg #[Value.int IntKind.i64 n77, Value.string s78, Value.string s79, Value.int IntKind.i64 n80], Value.int IntKind.i64 (0 : Int)])) w76)))))))
    (
     Br (!b10)
      (
       (
        WrRow w27 { block := b2, off := (0 : Nat) } (0 : Nat) [Value.int IntKind.i64 (0 : Int), Value.string { data := #[] }, Value.string { data := #[] }, Value.int IntKind.i64 (0 : Int)]) ∧
       LetW (setRow w27 { block := b2, off := (0 : Nat) } (0 : Nat) [Value.int IntKind.i64 (0 : Int), Value.string { data := #[] }, Value.string { data := #[] }, Value.int IntKind.i64 (0 : Int)]) fun w81 =>
       ∃ n82 : Int,
       ∃ s83 : ByteArray,
       ∃ s84 : ByteArray,
       ∃ n85 : Int,
       (
        Row w81 { block := b2, off := (0 : Nat) } (0 : Nat) [Value.int IntKind.i64 n82, Value.string s83, Value.string s84, Value.int IntKind.i64 n85]) ∧
       R (Ending.returned (Value.tuple #[Value.agg #[Value.int IntKind.i64 n82, Value.string s83, Value.string s84, Value.int IntKind.i64 n85], Value.int IntKind.i64 (10 : Int)])) w81)
      (
       Br (!b16)
        (
         (
          WrRow w27 { block := b2, off := (0 : Nat) } (0 : Nat) [Value.int IntKind.i64 (0 : Int), Value.string { data := #[] }, Value.string { data := #[] }, Value.int IntKind.i64 (0 : Int)]) ∧
         LetW (setRow w27 { block := b2, off := (0 : Nat) } (0 : Nat) [Value.int IntKind.i64 (0 : Int), Value.string { data := #[] }, Value.string { data := #[] }, Value.int IntKind.i64 (0 : Int)]) fun w86 =>
         ∃ n87 : Int,
         ∃ s88 : ByteArray,
         ∃ s89 : ByteArray,
         ∃ n90 : Int,
         (
          Row w86 { block := b2, off := (0 : Nat) } (0 : Nat) [Value.int IntKind.i64 n87, Value.string s88, Value.string s89, Value.int IntKind.i64 n90]) ∧
         R (Ending.returned (Value.tuple #[Value.agg #[Value.int IntKind.i64 n87, Value.string s88, Value.string s89, Value.int IntKind.i64 n90], Value.int IntKind.i64 (10 : Int)])) w86)
        (
         Br (!b26)
          (
           (
            WrRow w27 { block := b2, off := (0 : Nat) } (0 : Nat) [Value.int IntKind.i64 (0 : Int), Value.string { data := #[] }, Value.string { data := #[] }, Value.int IntKind.i64 (0 : Int)]) ∧
           LetW (setRow w27 { block := b2, off := (0 : Nat) } (0 : Nat) [Value.int IntKind.i64 (0 : Int), Value.string { data := #[] }, Value.string { data := #[] }, Value.int IntKind.i64 (0 : Int)]) fun w91 =>
           ∃ n92 : Int,
           ∃ s93 : ByteArray,
           ∃ s94 : ByteArray,
           ∃ n95 : Int,
           (
            Row w91 { block := b2, off := (0 : Nat) } (0 : Nat) [Value.int IntKind.i64 n92, Value.string s93, Value.string s94, Value.int IntKind.i64 n95]) ∧
           R (Ending.returned (Value.tuple #[Value.agg #[Value.int IntKind.i64 n92, Value.string s93, Value.string s94, Value.int IntKind.i64 n95], Value.int IntKind.i64 (10 : Int)])) w91)
          (
           Br (!s25.toList == [])
            (
             (
              WrRow w27 { block := b2, off := (0 : Nat) } (0 : Nat) [Value.int IntKind.i64 (0 : Int), Value.string { data := #[] }, Value.string { data := #[] }, Value.int IntKind.i64 (0 : Int)]) ∧
             LetW (setRow w27 { block := b2, off := (0 : Nat) } (0 : Nat) [Value.int IntKind.i64 (0 : Int), Value.string { data := #[] }, Value.string { data := #[] }, Value.int IntKind.i64 (0 : Int)]) fun w96 =>
             ∃ n97 : Int,
             ∃ s98 : ByteArray,
             ∃ s99 : ByteArray,
             ∃ n100 : Int,
             (
              Row w96 { block := b2, off := (0 : Nat) } (0 : Nat) [Value.int IntKind.i64 n97, Value.string s98, Value.string s99, Value.int IntKind.i64 n100]) ∧
             R (Ending.returned (Value.tuple #[Value.agg #[Value.int IntKind.i64 n97, Value.string s98, Value.string s99, Value.int IntKind.i64 n100], Value.int IntKind.i64 (10 : Int)])) w96)
            (
             ∃ n101 : Int,
             ∃ s102 : ByteArray,
             ∃ s103 : ByteArray,
             ∃ n104 : Int,
             (
              Row w27 { block := b4, off := (0 : Nat) } (0 : Nat) [Value.int IntKind.i64 n101, Value.string s102, Value.string s103, Value.int IntKind.i64 n104]) ∧
             Ca Try.prog (18 : Nat) #[Value.agg #[Value.int IntKind.i64 n101, Value.string s102, Value.string s103, Value.int IntKind.i64 n104]] w27 fun e105 w106 =>
             ∃ n107 : Int,
             (
              e105 = Ending.returned (Value.int IntKind.i64 n107)) ∧
             Br (n107 != (0 : Int))
              (
               (
                WrRow w106 { block := b2, off := (0 : Nat) } (0 : Nat) [Value.int IntKind.i64 (0 : Int), Value.string { data := #[] }, Value.string { data := #[] }, Value.int IntKind.i64 (0 : Int)]) ∧
               LetW (setRow w106 { block := b2, off := (0 : Nat) } (0 : Nat) [Value.int IntKind.i64 (0 : Int), Value.string { data := #[] }, Value.string { data := #[] }, Value.int IntKind.i64 (0 : Int)]) fun w108 =>
               ∃ n109 : Int,
               ∃ s110 : ByteArray,
               ∃ s111 : ByteArray,
               ∃ n112 : Int,
               (
                Row w108 { block := b2, off := (0 : Nat) } (0 : Nat) [Value.int IntKind.i64 n109, Value.string s110, Value.string s111, Value.int IntKind.i64 n112]) ∧
               R (Ending.returned (Value.tuple #[Value.agg #[Value.int IntKind.i64 n109, Value.string s110, Value.string s111, Value.int IntKind.i64 n112], Value.int IntKind.i64 (10 : Int)])) w108)
              (
               ∃ n113 : Int,
               ∃ s114 : ByteArray,
               ∃ s115 : ByteArray,
               ∃ n116 : Int,
               (
                Row w106 { block := b4, off := (0 : Nat) } (0 : Nat) [Value.int IntKind.i64 n113, Value.string s114, Value.string s115, Value.int IntKind.i64 n116]) ∧
               (
                WrRow w106 { block := b2, off := (0 : Nat) } (0 : Nat) [Value.int IntKind.i64 n113, Value.string s114, Value.string s115, Value.int IntKind.i64 n116]) ∧
               LetW (setRow w106 { block := b2, off := (0 : Nat) } (0 : Nat) [Value.int IntKind.i64 n113, Value.string s114, Value.string s115, Value.int IntKind.i64 n116]) fun w117 =>
               ∃ n118 : Int,
               ∃ s119 : ByteArray,
               ∃ s120 : ByteArray,
               ∃ n121 : Int,
               (
                Row w117 { block := b2, off := (0 : Nat) } (0 : Nat) [Value.int IntKind.i64 n118, Value.string s119, Value.string s120, Value.int IntKind.i64 n121]) ∧
               R (Ending.returned (Value.tuple #[Value.agg #[Value.int IntKind.i64 n118, Value.string s119, Value.string s120, Value.int IntKind.i64 n121], Value.int IntKind.i64 (0 : Int)])) w117)))))))
  (
   ∃ n122 : Int,
   (
    w20.cell? { block := b4, off := (0 : Nat) } = some (Value.int IntKind.i64 n122)) ∧
   Br (n122 == (4 : Int))
    (
     Ca Try.prog (58 : Nat) #[Value.string s15] w20 fun e123 w124 =>
     ∃ n125 : Int,
     ∃ s126 : ByteArray,
     ∃ b127 : Bool,
     (
      e123 = Ending.returned (Value.tuple #[Value.int IntKind.i64 n125, Value.string s126, Value.bool b127])) ∧
     (
      Wr w124 { block := b4, off := (3 : Nat) }) ∧
     LetW (w124.setCell { block := b4, off := (3 : Nat) } (Value.int IntKind.i64 n125)) fun w128 =>
     Br (!b10)
      (
       (
        WrRow w128 { block := b2, off := (0 : Nat) } (0 : Nat) [Value.int IntKind.i64 (0 : Int), Value.string { data := #[] }, Value.string { data := #[] }, Value.int IntKind.i64 (0 : Int)]) ∧
       LetW (setRow w128 { block := b2, off := (0 : Nat) } (0 : Nat) [Value.int IntKind.i64 (0 : Int), Value.string { data := #[] }, Value.string { data := #[] }, Value.int IntKind.i64 (0 : Int)]) fun w129 =>
       ∃ n130 : Int,
       ∃ s131 : ByteArray,
       ∃ s132 : ByteArray,
       ∃ n133 : Int,
       (
        Row w129 { block := b2, off := (0 : Nat) } (0 : Nat) [Value.int IntKind.i64 n130, Value.string s131, Value.string s132, Value.int IntKind.i64 n133]) ∧
       R (Ending.returned (Value.tuple #[Value.agg #[Value.int IntKind.i64 n130, Value.string s131, Value.string s132, Value.int IntKind.i64 n133], Value.int IntKind.i64 (10 : Int)])) w129)
      (
       Br (!b16)
        (
         (
          WrRow w128 { block := b2, off := (0 : Nat) } (0 : Nat) [Value.int IntKind.i64 (0 : Int), Value.string { data := #[] }, Value.string { data := #[] }, Value.int IntKind.i64 (0 : Int)]) ∧
         LetW (setRow w128 { block := b2, off := (0 : Nat) } (0 : Nat) [Value.int IntKind.i64 (0 : Int), Value.string { data := #[] }, Value.string { data := #[] }, Value.int IntKind.i64 (0 : Int)]) fun w134 =>
         ∃ n135 : Int,
         ∃ s136 : ByteArray,
         ∃ s137 : ByteArray,
         ∃ n138 : Int,
         (
          Row w134 { block := b2, off := (0 : Nat) } (0 : Nat) [Value.int IntKind.i64 n135, Value.string s136, Value.string s137, Value.int IntKind.i64 n138]) ∧
         R (Ending.returned (Value.tuple #[Value.agg #[Value.int IntKind.i64 n135, Value.string s136, Value.string s137, Value.int IntKind.i64 n138], Value.int IntKind.i64 (10 : Int)])) w134)
        (
         Br (!b127)
          (
           (
            WrRow w128 { block := b2, off := (0 : Nat) } (0 : Nat) [Value.int IntKind.i64 (0 : Int), Value.string { data := #[] }, Value.string { data := #[] }, Value.int IntKind.i64 (0 : Int)]) ∧
           LetW (setRow w128 { block := b2, off := (0 : Nat) } (0 : Nat) [Value.int IntKind.i64 (0 : Int), Value.string { data := #[] }, Value.string { data := #[] }, Value.int IntKind.i64 (0 : Int)]) fun w139 =>
           ∃ n140 : Int,
           ∃ s141 : ByteArray,
           ∃ s142 : ByteArray,
           ∃ n143 : Int,
           (
            Row w139 { block := b2, off := (0 : Nat) } (0 : Nat) [Value.int IntKind.i64 n140, Value.string s141, Value.string s142, Value.int IntKind.i64 n143]) ∧
           R (Ending.returned (Value.tuple #[Value.agg #[Value.int IntKind.i64 n140, Value.string s141, Value.string s142, Value.int IntKind.i64 n143], Value.int IntKind.i64 (10 : Int)])) w139)
          (
           Br (!s126.toList == [])
            (
             (
              WrRow w128 { block := b2, off := (0 : Nat) } (0 : Nat) [Value.int IntKind.i64 (0 : Int), Value.string { data := #[] }, Value.string { data := #[] }, Value.int IntKind.i64 (0 : Int)]) ∧
             LetW (setRow w128 { block := b2, off := (0 : Nat) } (0 : Nat) [Value.int IntKind.i64 (0 : Int), Value.string { data := #[] }, Value.string { data := #[] }, Value.int IntKind.i64 (0 : Int)]) fun w144 =>
             ∃ n145 : Int,
             ∃ s146 : ByteArray,
             ∃ s147 : ByteArray,
             ∃ n148 : Int,
             (
              Row w144 { block := b2, off := (0 : Nat) } (0 : Nat) [Value.int IntKind.i64 n145, Value.string s146, Value.string s147, Value.int IntKind.i64 n148]) ∧
             R (Ending.returned (Value.tuple #[Value.agg #[Value.int IntKind.i64 n145, Value.string s146, Value.string s147, Value.int IntKind.i64 n148], Value.int IntKind.i64 (10 : Int)])) w144)
            (
             ∃ n149 : Int,
             ∃ s150 : ByteArray,
             ∃ s151 : ByteArray,
             ∃ n152 : Int,
             (
              Row w128 { block := b4, off := (0 : Nat) } (0 : Nat) [Value.int IntKind.i64 n149, Value.string s150, Value.string s151, Value.int IntKind.i64 n152]) ∧
             Ca Try.prog (18 : Nat) #[Value.agg #[Value.int IntKind.i64 n149, Value.string s150, Value.string s151, Value.int IntKind.i64 n152]] w128 fun e153 w154 =>
             ∃ n155 : Int,
             (
              e153 = Ending.returned (Value.int IntKind.i64 n155)) ∧
             Br (n155 != (0 : Int))
              (
               (
                WrRow w154 { block := b2, off := (0 : Nat) } (0 : Nat) [Value.int IntKind.i64 (0 : Int), Value.string { data := #[] }, Value.string { data := #[] }, Value.int IntKind.i64 (0 : Int)]) ∧
               LetW (setRow w154 { block := b2, off := (0 : Nat) } (0 : Nat) [Value.int IntKind.i64 (0 : Int), Value.string { data := #[] }, Value.string { data := #[] }, Value.int IntKind.i64 (0 : Int)]) fun w156 =>
               ∃ n157 : Int,
               ∃ s158 : ByteArray,
               ∃ s159 : ByteArray,
               ∃ n160 : Int,
               (
                Row w156 { block := b2, off := (0 : Nat) } (0 : Nat) [Value.int IntKind.i64 n157, Value.string s158, Value.string s159, Value.int IntKind.i64 n160]) ∧
               R (Ending.returned (Value.tuple #[Value.agg #[Value.int IntKind.i64 n157, Value.string s158, Value.string s159, Value.int IntKind.i64 n160], Value.int IntKind.i64 (10 : Int)])) w156)
              (
               ∃ n161 : Int,
               ∃ s162 : ByteArray,
               ∃ s163 : ByteArray,
               ∃ n164 : Int,
               (
                Row w154 { block := b4, off := (0 : Nat) } (0 : Nat) [Value.int IntKind.i64 n161, Value.string s162, Value.string s163, Value.int IntKind.i64 n164]) ∧
               (
                WrRow w154 { block := b2, off := (0 : Nat) } (0 : Nat) [Value.int IntKind.i64 n161, Value.string s162, Value.string s163, Value.int IntKind.i64 n164]) ∧
               LetW (setRow w154 { block := b2, off := (0 : Nat) } (0 : Nat) [Value.int IntKind.i64 n161, Value.string s162, Value.string s163, Value.int IntKind.i64 n164]) fun w165 =>
               ∃ n166 : Int,
               ∃ s167 : ByteArray,
               ∃ s168 : ByteArray,
               ∃ n169 : Int,
               (
                Row w165 { block := b2, off := (0 : Nat) } (0 : Nat) [Value.int IntKind.i64 n166, Value.string s167, Value.string s168, Value.int IntKind.i64 n169]) ∧
               R (Ending.returned (Value.tuple #[Value.agg #[Value.int IntKind.i64 n166, Value.string s167, Value.string s168, Value.int IntKind.i64 n169], Value.int IntKind.i64 (0 : Int)])) w165))))))
    (
     Br (!b10)
      (
       (
        WrRow w20 { block := b2, off := (0 : Nat) } (0 : Nat) [Value.int IntKind.i64 (0 : Int), Value.string { data := #[] }, Value.string { data := #[] }, Value.int IntKind.i64 (0 : Int)]) ∧
       LetW (setRow w20 { block := b2, off := (0 : Nat) } (0 : Nat) [Value.int IntKind.i64 (0 : Int), Value.string { data := #[] }, Value.string { data := #[] }, Value.int IntKind.i64 (0 : Int)]) fun w170 =>
       ∃ n171 : Int,
       ∃ s172 : ByteArray,
       ∃ s173 : ByteArray,
       ∃ n174 : Int,
       (
        Row w170 { block := b2, off := (0 : Nat) } (0 : Nat) [Value.int IntKind.i64 n171, Value.string s172, Value.string s173, Value.int IntKind.i64 n174]) ∧
       R (Ending.returned (Value.tuple #[Value.agg #[Value.int IntKind.i64 n171, Value.string s172, Value.string s173, Value.int IntKind.i64 n174], Value.int IntKind.i64 (10 : Int)])) w170)
      (
       Br (!b16)
        (
         (
          WrRow w20 { block := b2, off := (0 : Nat) } (0 : Nat) [Value.int IntKind.i64 (0 : Int), Value.string { data := #[] }, Value.string { data := #[] }, Value.int IntKind.i64 (0 : Int)]) ∧
         LetW (setRow w20 { block := b2, off := (0 : Nat) } (0 : Nat) [Value.int IntKind.i64 (0 : Int), Value.string { data := #[] }, Value.string { data := #[] }, Value.int IntKind.i64 (0 : Int)]) fun w175 =>
         ∃ n176 : Int,
         ∃ s177 : ByteArray,
         ∃ s178 : ByteArray,
         ∃ n179 : Int,
         (
          Row w175 { block := b2, off := (0 : Nat) } (0 : Nat) [Value.int IntKind.i64 n176, Value.string s177, Value.string s178, Value.int IntKind.i64 n179]) ∧
         R (Ending.returned (Value.tuple #[Value.agg #[Value.int IntKind.i64 n176, Value.string s177, Value.string s178, Value.int IntKind.i64 n179], Value.int IntKind.i64 (10 : Int)])) w175)
        (
         Br (!s15.toList == [])
          (
           (
            WrRow w20 { block := b2, off := (0 : Nat) } (0 : Nat) [Value.int IntKind.i64 (0 : Int), Value.string { data := #[] }, Value.string { data := #[] }, Value.int IntKind.i64 (0 : Int)]) ∧
           LetW (setRow w20 { block := b2, off := (0 : Nat) } (0 : Nat) [Value.int IntKind.i64 (0 : Int), Value.string { data := #[] }, Value.string { data := #[] }, Value.int IntKind.i64 (0 : Int)]) fun w180 =>
           ∃ n181 : Int,
           ∃ s182 : ByteArray,
           ∃ s183 : ByteArray,
           ∃ n184 : Int,
           (
            Row w180 { block := b2, off := (0 : Nat) } (0 : Nat) [Value.int IntKind.i64 n181, Value.string s182, Value.string s183, Value.int IntKind.i64 n184]) ∧
           R (Ending.returned (Value.tuple #[Value.agg #[Value.int IntKind.i64 n181, Value.string s182, Value.string s183, Value.int IntKind.i64 n184], Value.int IntKind.i64 (10 : Int)])) w180)
          (
           ∃ n185 : Int,
           ∃ s186 : ByteArray,
           ∃ s187 : ByteArray,
           ∃ n188 : Int,
           (
            Row w20 { block := b4, off := (0 : Nat) } (0 : Nat) [Value.int IntKind.i64 n185, Value.string s186, Value.string s187, Value.int IntKind.i64 n188]) ∧
           Ca Try.prog (18 : Nat) #[Value.agg #[Value.int IntKind.i64 n185, Value.string s186, Value.string s187, Value.int IntKind.i64 n188]] w20 fun e189 w190 =>
           ∃ n191 : Int,
           (
            e189 = Ending.returned (Value.int IntKind.i64 n191)) ∧
           Br (n191 != (0 : Int))
            (
             (
              WrRow w190 { block := b2, off := (0 : Nat) } (0 : Nat) [Value.int IntKind.i64 (0 : Int), Value.string { data := #[] }, Value.string { data := #[] }, Value.int IntKind.i64 (0 : Int)]) ∧
             LetW (setRow w190 { block := b2, off := (0 : Nat) } (0 : Nat) [Value.int IntKind.i64 (0 : Int), Value.string { data := #[] }, Value.string { data := #[] }, Value.int IntKind.i64 (0 : Int)]) fun w192 =>
             ∃ n193 : Int,
             ∃ s194 : ByteArray,
             ∃ s195 : ByteArray,
             ∃ n196 : Int,
             (
              Row w192 { block := b2, off := (0 : Nat) } (0 : Nat) [Value.int IntKind.i64 n193, Value.string s194, Value.string s195, Value.int IntKind.i64 n196]) ∧
             R (Ending.returned (Value.tuple #[Value.agg #[Value.int IntKind.i64 n193, Value.string s194, Value.string s195, Value.int IntKind.i64 n196], Value.int IntKind.i64 (10 : Int)])) w192)
            (
             ∃ n197 : Int,
             ∃ s198 : ByteArray,
             ∃ s199 : ByteArray,
             ∃ n200 : Int,
             (
              Row w190 { block := b4, off := (0 : Nat) } (0 : Nat) [Value.int IntKind.i64 n197, Value.string s198, Value.string s199, Value.int IntKind.i64 n200]) ∧
             (
              WrRow w190 { block := b2, off := (0 : Nat) } (0 : Nat) [Value.int IntKind.i64 n197, Value.string s198, Value.string s199, Value.int IntKind.i64 n200]) ∧
             LetW (setRow w190 { block := b2, off := (0 : Nat) } (0 : Nat) [Value.int IntKind.i64 n197, Value.string s198, Value.string s199, Value.int IntKind.i64 n200]) fun w201 =>
             ∃ n202 : Int,
             ∃ s203 : ByteArray,
             ∃ s204 : ByteArray,
             ∃ n205 : Int,
             (
              Row w201 { block := b2, off := (0 : Nat) } (0 : Nat) [Value.int IntKind.i64 n202, Value.string s203, Value.string s204, Value.int IntKind.i64 n205]) ∧
             R (Ending.returned (Value.tuple #[Value.agg #[Value.int IntKind.i64 n202, Value.string s203, Value.string s204, Value.int IntKind.i64 n205], Value.int IntKind.i64 (0 : Int)])) w201))))))
theorem oget_ok (s1 : ByteArray) (w : World) (R : Ending → World → Prop) (h : oget s1 w R) : Ca Try.prog 23 #[Value.string s1] w R :=
  Ca.of_fvc (c := bodyOf Try.f23) (by kernel_rfl) Try.func23 (by kernel_rfl) [] (Eq.mp (by kernel_rfl) h)

def rocheck (n1 : Int) (s2 : ByteArray) (s3 : ByteArray) (n4 : Int) (w : World) (R : Ending → World → Prop) : Prop :=
 LetA (Obj.cells #[Value.int IntKind.i64 n1, Value.string s2, Value.string s3, Value.int IntKind.i64 n4] (23 : Nat)) w fun b5 w6 =>
 ∃ n7 : Int,
 (
  w6.cell? { block := b5, off := (0 : Nat) } = some (Value.int IntKind.i64 n7)) ∧
 Br (decide (n7 < (1 : Int)))
  (
   R (Ending.returned (Value.int IntKind.i64 (2 : Int))) w6)
  (
   ∃ n8 : Int,
   (
    w6.cell? { block := b5, off := (0 : Nat) } = some (Value.int IntKind.i64 n8)) ∧
   Br (decide (n8 > (4 : Int)))
    (
     R (Ending.returned (Value.int IntKind.i64 (2 : Int))) w6)
    (
     ∃ s9 : ByteArray,
     (
      w6.cell? { block := b5, off := (1 : Nat) } = some (Value.string s9)) ∧
     Br ((↑s9.size : Int) == (0 : Int))
      (
       R (Ending.returned (Value.int IntKind.i64 (2 : Int))) w6)
      (
       ∃ n10 : Int,
       (
        w6.cell? { block := b5, off := (3 : Nat) } = some (Value.int IntKind.i64 n10)) ∧
       Br (decide (n10 < (0 : Int)))
        (
         R (Ending.returned (Value.int IntKind.i64 (2 : Int))) w6)
        (
         ∃ n11 : Int,
         (
          w6.cell? { block := b5, off := (3 : Nat) } = some (Value.int IntKind.i64 n11)) ∧
         Br (decide (n11 > (4096 : Int)))
          (
           R (Ending.returned (Value.int IntKind.i64 (2 : Int))) w6)
          (
           ∃ n12 : Int,
           (
            w6.cell? { block := b5, off := (3 : Nat) } = some (Value.int IntKind.i64 n12)) ∧
           Br (decide (n12 > (0 : Int)))
            (
             ∃ n13 : Int,
             (
              w6.cell? { block := b5, off := (0 : Nat) } = some (Value.int IntKind.i64 n13)) ∧
             Br (n13 != (4 : Int))
              (
               R (Ending.returned (Value.int IntKind.i64 (2 : Int))) w6)
              (
               ∃ s14 : ByteArray,
               (
                w6.cell? { block := b5, off := (2 : Nat) } = some (Value.string s14)) ∧
               Br (decide ((↑s14.size : Int) > (0 : Int)))
                (
                 ∃ n15 : Int,
                 (
                  w6.cell? { block := b5, off := (0 : Nat) } = some (Value.int IntKind.i64 n15)) ∧
                 Br (n15 == (1 : Int))
                  (
                   R (Ending.returned (Value.int IntKind.i64 (2 : Int))) w6)
                  (
                   ∃ n16 : Int,
                   (
                    w6.cell? { block := b5, off := (0 : Nat) } = some (Value.int IntKind.i64 n16)) ∧
                   Br (n16 == (3 : Int))
                    (
                     R (Ending.returned (Value.int IntKind.i64 (2 : Int))) w6)
                    (
                     ∃ s17 : ByteArray,
                     (
                      w6.cell? { block := b5, off := (1 : Nat) } = some (Value.string s17)) ∧
                     Br (decide ((↑s17.size : Int) > (16 : Int)))
                      (
                       R (Ending.returned (Value.int IntKind.i64 (3 : Int))) w6)
                      (
                       ∃ s18 : ByteArray,
                       (
                        w6.cell? { block := b5, off := (2 : Nat) } = some (Value.string s18)) ∧
                       Br (decide ((↑s18.size : Int) > (64 : Int)))
                        (
                         R (Ending.returned (Value.int IntKind.i64 (3 : Int))) w6)
                        (
                         R (Ending.returned (Value.int IntKind.i64 (0 : Int))) w6)))))
                (
                 ∃ s19 : ByteArray,
                 (
                  w6.cell? { block := b5, off := (1 : Nat) } = some (Value.string s19)) ∧
                 Br (decide ((↑s19.size : Int) > (16 : Int)))
                  (
                   R (Ending.returned (Value.int IntKind.i64 (3 : Int))) w6)
                  (
                   ∃ s20 : ByteArray,
                   (
                    w6.cell? { block := b5, off := (2 : Nat) } = some (Value.string s20)) ∧
                   Br (decide ((↑s20.size : Int) > (64 : Int)))
                    (
                     R (Ending.returned (Value.int IntKind.i64 (3 : Int))) w6)
                    (
                     R (Ending.returned (Value.int IntKind.i64 (0 : Int))) w6)))))
            (
             ∃ s21 : ByteArray,
             (
              w6.cell? { block := b5, off := (2 : Nat) } = some (Value.string s21)) ∧
             Br (decide ((↑s21.size : Int) > (0 : Int)))
              (
               ∃ n22 : Int,
               (
                w6.cell? { block := b5, off := (0 : Nat) } = some (Value.int IntKind.i64 n22)) ∧
               Br (n22 == (1 : Int))
                (
                 R (Ending.returned (Value.int IntKind.i64 (2 : Int))) w6)
                (
                 ∃ n23 : Int,
                 (
                  w6.cell? { block := b5, off := (0 : Nat) } = some (Value.int IntKind.i64 n23)) ∧
                 Br (n23 == (3 : Int))
                  (
                   R (Ending.returned (Value.int IntKind.i64 (2 : Int))) w6)
                  (
                   ∃ s24 : ByteArray,
                   (
                    w6.cell? { block := b5, off := (1 : Nat) } = some (Value.string s24)) ∧
                   Br (decide ((↑s24.size : Int) > (16 : Int)))
                    (
                     R (Ending.returned (Value.int IntKind.i64 (3 : Int))) w6)
                    (
                     ∃ s25 : ByteArray,
                     (
                      w6.cell? { block := b5, off := (2 : Nat) } = some (Value.string s25)) ∧
                     Br (decide ((↑s25.size : Int) > (64 : Int)))
                      (
                       R (Ending.returned (Value.int IntKind.i64 (3 : Int))) w6)
                      (
                       R (Ending.returned (Value.int IntKind.i64 (0 : Int))) w6)))))
              (
               ∃ s26 : ByteArray,
               (
                w6.cell? { block := b5, off := (1 : Nat) } = some (Value.string s26)) ∧
               Br (decide ((↑s26.size : Int) > (16 : Int)))
                (
                 R (Ending.returned (Value.int IntKind.i64 (3 : Int))) w6)
                (
                 ∃ s27 : ByteArray,
                 (
                  w6.cell? { block := b5, off := (2 : Nat) } = some (Value.string s27)) ∧
                 Br (decide ((↑s27.size : Int) > (64 : Int)))
                  (
                   R (Ending.returned (Value.int IntKind.i64 (3 : Int))) w6)
                  (
                   R (Ending.returned (Value.int IntKind.i64 (0 : Int))) w6)))))))))
theorem rocheck_ok (n1 : Int) (s2 : ByteArray) (s3 : ByteArray) (n4 : Int) (w : World) (R : Ending → World → Prop) (h : rocheck n1 s2 s3 n4 w R) : Ca Try.prog 19 #[Value.agg #[Value.int IntKind.i64 n1, Value.string s2, Value.string s3, Value.int IntKind.i64 n4]] w R :=
  Ca.of_fvc (c := bodyOf Try.f19) (by kernel_rfl) Try.func19 (by kernel_rfl) [] (Eq.mp (by kernel_rfl) h)

def rocost (n1 : Int) (s2 : ByteArray) (s3 : ByteArray) (n4 : Int) (w : World) (R : Ending → World → Prop) : Prop :=
 LetA (Obj.cells #[Value.int IntKind.i64 n1, Value.string s2, Value.string s3, Value.int IntKind.i64 n4] (23 : Nat)) w fun b5 w6 =>
 ∃ n7 : Int,
 ∃ s8 : ByteArray,
 ∃ s9 : ByteArray,
 ∃ n10 : Int,
 (
  Row w6 { block := b5, off := (0 : Nat) } (0 : Nat) [Value.int IntKind.i64 n7, Value.string s8, Value.string s9, Value.int IntKind.i64 n10]) ∧
 Ca Try.prog (19 : Nat) #[Value.agg #[Value.int IntKind.i64 n7, Value.string s8, Value.string s9, Value.int IntKind.i64 n10]] w6 fun e11 w12 =>
 ∃ n13 : Int,
 (
  e11 = Ending.returned (Value.int IntKind.i64 n13)) ∧
 Br (n13 != (0 : Int))
  (
   R (Ending.returned (Value.int IntKind.i64 (0 : Int))) w12)
  (
   ∃ s14 : ByteArray,
   (
    w12.cell? { block := b5, off := (1 : Nat) } = some (Value.string s14)) ∧
   ∃ s15 : ByteArray,
   (
    w12.cell? { block := b5, off := (2 : Nat) } = some (Value.string s15)) ∧
   (
    (↑(s14.size + s15.size) : Int) ≤ IntKind.i64.max) ∧
   LetI (IntKind.i64.wrap ((16 : Int) + (↑(s14 ++ s15).size : Int))) fun n16 =>
   R (Ending.returned (Value.int IntKind.i64 n16)) w12)
theorem rocost_ok (n1 : Int) (s2 : ByteArray) (s3 : ByteArray) (n4 : Int) (w : World) (R : Ending → World → Prop) (h : rocost n1 s2 s3 n4 w R) : Ca Try.prog 21 #[Value.agg #[Value.int IntKind.i64 n1, Value.string s2, Value.string s3, Value.int IntKind.i64 n4]] w R :=
  Ca.of_fvc (c := bodyOf Try.f21) (by kernel_rfl) Try.func21 (by kernel_rfl) [] (Eq.mp (by kernel_rfl) h)

def roput (n1 : Int) (s2 : ByteArray) (s3 : ByteArray) (n4 : Int) (w : World) (R : Ending → World → Prop) : Prop :=
 LetA (Obj.cells #[Value.int IntKind.i64 n1, Value.string s2, Value.string s3, Value.int IntKind.i64 n4] (23 : Nat)) w fun b5 w6 =>
 ∃ n7 : Int,
 ∃ s8 : ByteArray,
 ∃ s9 : ByteArray,
 ∃ n10 : Int,
 (
  Row w6 { block := b5, off := (0 : Nat) } (0 : Nat) [Value.int IntKind.i64 n7, Value.string s8, Value.string s9, Value.int IntKind.i64 n10]) ∧
 Ca Try.prog (19 : Nat) #[Value.agg #[Value.int IntKind.i64 n7, Value.string s8, Value.string s9, Value.int IntKind.i64 n10]] w6 fun e11 w12 =>
 ∃ n13 : Int,
 (
  e11 = Ending.returned (Value.int IntKind.i64 n13)) ∧
 Br (n13 != (0 : Int))
  (
   R (Ending.returned (Value.tuple #[Value.string { data := #[] }, Value.int IntKind.i64 n13])) w12)
  (
   ∃ n14 : Int,
   (
    w12.cell? { block := b5, off := (0 : Nat) } = some (Value.int IntKind.i64 n14)) ∧
   ∃ s15 : ByteArray,
   (
    w12.cell? { block := b5, off := (1 : Nat) } = some (Value.string s15)) ∧
   Ca Try.prog (56 : Nat) #[Value.int IntKind.i64 n14] w12 fun e16 w17 =>
   ∃ s18 : ByteArray,
   (
    e16 = Ending.returned (Value.string s18)) ∧
   (
    w17.cell? { block := b5, off := (1 : Nat) } = some (Value.string s15)) ∧
   Ca Try.prog (57 : Nat) #[Value.string s15] w17 fun e19 w20 =>
   ∃ s21 : ByteArray,
   (
    e19 = Ending.returned (Value.string s21)) ∧
   (
    (↑(s18.size + s21.size) : Int) ≤ IntKind.i64.max) ∧
   ∃ n22 : Int,
   (
    w20.cell? { block := b5, off := (0 : Nat) } = some (Value.int IntKind.i64 n22)) ∧
   Br (n22 == (2 : Int))
    (
     ∃ s23 : ByteArray,
     (
      w20.cell? { block := b5, off := (2 : Nat) } = some (Value.string s23)) ∧
     Ca Try.prog (57 : Nat) #[Value.string s23] w20 fun e24 w25 =>
     ∃ s26 : ByteArray,
     (
      e24 = Ending.returned (Value.string s26)) ∧
     (
      (↑((s18 ++ s21).size + s26.size) : Int) ≤ IntKind.i64.max) ∧
     R (Ending.returned (Value.tuple #[Value.string (s18 ++ s21 ++ s26), Value.int IntKind.i64 (0 : Int)])) w25)
    (
     ∃ n27 : Int,
     (
      w20.cell? { block := b5, off := (0 : Nat) } = some (Value.int IntKind.i64 n27)) ∧
     Br (n27 == (4 : Int))
      (
       ∃ s28 : ByteArray,
       (
        w20.cell? { block := b5, off := (2 : Nat) } = some (Value.string s28)) ∧
       ∃ n29 : Int,
       (
        w20.cell? { block := b5, off := (3 : Nat) } = some (Value.int IntKind.i64 n29)) ∧
       Ca Try.prog (57 : Nat) #[Value.string s28] w20 fun e30 w31 =>
       ∃ s32 : ByteArray,
       (
        e30 = Ending.returned (Value.string s32)) ∧
       (
        w31.cell? { block := b5, off := (3 : Nat) } = some (Value.int IntKind.i64 n29)) ∧
       (
        (↑((s18 ++ s21).size + s32.size) : Int) ≤ IntKind.i64.max) ∧
       Ca Try.prog (56 : Nat) #[Value.int IntKind.i64 n29] w31 fun e33 w34 =>
       ∃ s35 : ByteArray,
       (
        e33 = Ending.returned (Value.string s35)) ∧
       (
        (↑((s18 ++ s21 ++ s32).size + s35.size) : Int) ≤ IntKind.i64.max) ∧
       R (Ending.returned (Value.tuple #[Value.string (s18 ++ s21 ++ s32 ++ s35), Value.int IntKind.i64 (0 : Int)])) w34)
      (
       R (Ending.returned (Value.tuple #[Value.string (s18 ++ s21), Value.int IntKind.i64 (0 : Int)])) w20)))
theorem roput_ok (n1 : Int) (s2 : ByteArray) (s3 : ByteArray) (n4 : Int) (w : World) (R : Ending → World → Prop) (h : roput n1 s2 s3 n4 w R) : Ca Try.prog 17 #[Value.agg #[Value.int IntKind.i64 n1, Value.string s2, Value.string s3, Value.int IntKind.i64 n4]] w R :=
  Ca.of_fvc (c := bodyOf Try.f17) (by kernel_rfl) Try.func17 (by kernel_rfl) [] (Eq.mp (by kernel_rfl) h)

def roget (s1 : ByteArray) (w : World) (R : Ending → World → Prop) : Prop :=
 LetA (Obj.cells #[Value.int IntKind.i64 (0 : Int), Value.string { data := #[] }, Value.string { data := #[] }, Value.int IntKind.i64 (0 : Int)] (23 : Nat)) w fun b2 w3 =>
 Ca Try.prog (60 : Nat) #[Value.string s1] w3 fun e4 w5 =>
 ∃ n6 : Int,
 ∃ s7 : ByteArray,
 ∃ b8 : Bool,
 (
  e4 = Ending.returned (Value.tuple #[Value.int IntKind.i64 n6, Value.string s7, Value.bool b8])) ∧
 Ca Try.prog (61 : Nat) #[Value.string s7] w5 fun e9 w10 =>
 ∃ s11 : ByteArray,
 ∃ s12 : ByteArray,
 ∃ b13 : Bool,
 (
  e9 = Ending.returned (Value.tuple #[Value.string s11, Value.string s12, Value.bool b13])) ∧
 Ca Try.prog (61 : Nat) #[Value.string s12] w10 fun e14 w15 =>
 ∃ s16 : ByteArray,
 ∃ s17 : ByteArray,
 ∃ b18 : Bool,
 (
  e14 = Ending.returned (Value.tuple #[Value.string s16, Value.string s17, Value.bool b18])) ∧
 Ca Try.prog (60 : Nat) #[Value.string s17] w15 fun e19 w20 =>
 ∃ n21 : Int,
 ∃ s22 : ByteArray,
 ∃ b23 : Bool,
 (
  e19 = Ending.returned (Value.tuple #[Value.int IntKind.i64 n21, Value.string s22, Value.bool b23])) ∧
 LetA (Obj.cells #[Value.int IntKind.i64 (0 : Int), Value.string { data := #[] }, Value.string { data := #[] }, Value.int IntKind.i64 (0 : Int)] (23 : Nat)) w20 fun b24 w25 =>
 (
  WrRow w25 { block := b24, off := (0 : Nat) } (0 : Nat) [Value.int IntKind.i64 n6, Value.string s11, Value.string { data := #[] }, Value.int IntKind.i64 (0 : Int)]) ∧
 LetW (setRow w25 { block := b24, off := (0 : Nat) } (0 : Nat) [Value.int IntKind.i64 n6, Value.string s11, Value.string { data := #[] }, Value.int IntKind.i64 (0 : Int)]) fun w26 =>
 Br (n6 == (2 : Int))
  (
   (
    Wr w26 { block := b24, off := (2 : Nat) }) ∧
   LetW (w26.setCell { block := b24, off := (2 : Nat) } (Value.string s16)) fun w27 =>
   Br (n6 == (4 : Int))
    (
     (
      Wr w27 { block := b24, off := (3 : Nat) }) ∧
     LetW (w27.setCell { block := b24, off := (3 : Nat) } (Value.int IntKind.i64 n21)) fun w28 =>
     ∃ n29 : Int,
     ∃ s30 : ByteArray,
     ∃ s31 : ByteArray,
     ∃ n32 : Int,
     (
      Row w28 { block := b24, off := (0 : Nat) } (0 : Nat) [Value.int IntKind.i64 n29, Value.string s30, Value.string s31, Value.int IntKind.i64 n32]) ∧
     Ca Try.prog (17 : Nat) #[Value.agg #[Value.int IntKind.i64 n29, Value.string s30, Value.string s31, Value.int IntKind.i64 n32]] w28 fun e33 w34 =>
     ∃ s35 : ByteArray,
     ∃ n36 : Int,
     (
      e33 = Ending.returned (Value.tuple #[Value.string s35, Value.int IntKind.i64 n36])) ∧
     Br (n36 != (0 : Int))
      (
       (
        WrRow w34 { block := b2, off := (0 : Nat) } (0 : Nat) [Value.int IntKind.i64 (0 : Int), Value.string { data := #[] }, Value.string { data := #[] }, Value.int IntKind.i64 (0 : Int)]) ∧
       LetW (setRow w34 { block := b2, off := (0 : Nat) } (0 : Nat) [Value.int IntKind.i64 (0 : Int), Value.string { data := #[] }, Value.string { data := #[] }, Value.int IntKind.i64 (0 : Int)]) fun w37 =>
       ∃ n38 : Int,
       ∃ s39 : ByteArray,
       ∃ s40 : ByteArray,
       ∃ n41 : Int,
       (
        Row w37 { block := b2, off := (0 : Nat) } (0 : Nat) [Value.int IntKind.i64 n38, Value.string s39, Value.string s40, Value.int IntKind.i64 n41]) ∧
       R (Ending.returned (Value.tuple #[Value.agg #[Value.int IntKind.i64 n38, Value.string s39, Value.string s40, Value.int IntKind.i64 n41], Value.int IntKind.i64 (10 : Int)])) w37)
      (
       Br (!s35.toList == s1.toList)
        (
         (
          WrRow w34 { block := b2, off := (0 : Nat) } (0 : Nat) [Value.int IntKind.i64 (0 : Int), Value.string { data := #[] }, Value.string { data := #[] }, Value.int IntKind.i64 (0 : Int)]) ∧
         LetW (setRow w34 { block := b2, off := (0 : Nat) } (0 : Nat) [Value.int IntKind.i64 (0 : Int), Value.string { data := #[] }, Value.string { data := #[] }, Value.int IntKind.i64 (0 : Int)]) fun w42 =>
         ∃ n43 : Int,
         ∃ s44 : ByteArray,
         ∃ s45 : ByteArray,
         ∃ n46 : Int,
         (
          Row w42 { block := b2, off := (0 : Nat) } (0 : Nat) [Value.int IntKind.i64 n43, Value.string s44, Value.string s45, Value.int IntKind.i64 n46]) ∧
         R (Ending.returned (Value.tuple #[Value.agg #[Value.int IntKind.i64 n43, Value.string s44, Value.string s45, Value.int IntKind.i64 n46], Value.int IntKind.i64 (10 : Int)])) w42)
        (
         ∃ n47 : Int,
         ∃ s48 : ByteArray,
         ∃ s49 : ByteArray,
         ∃ n50 : Int,
         (
          Row w34 { block := b24, off := (0 : Nat) } (0 : Nat) [Value.int IntKind.i64 n47, Value.string s48, Value.string s49, Value.int IntKind.i64 n50]) ∧
         (
          WrRow w34 { block := b2, off := (0 : Nat) } (0 : Nat) [Value.int IntKind.i64 n47, Value.string s48, Value.string s49, Value.int IntKind.i64 n50]) ∧
         LetW (setRow w34 { block := b2, off := (0 : Nat) } (0 : Nat) [Value.int IntKind.i64 n47, Value.string s48, Value.string s49, Value.int IntKind.i64 n50]) fun w51 =>
         ∃ n52 : Int,
         ∃ s53 : ByteArray,
         ∃ s54 : ByteArray,
         ∃ n55 : Int,
         (
          Row w51 { block := b2, off := (0 : Nat) } (0 : Nat) [Value.int IntKind.i64 n52, Value.string s53, Value.string s54, Value.int IntKind.i64 n55]) ∧
         R (Ending.returned (Value.tuple #[Value.agg #[Value.int IntKind.i64 n52, Value.string s53, Value.string s54, Value.int IntKind.i64 n55], Value.int IntKind.i64 (0 : Int)])) w51)))
    (
     ∃ n56 : Int,
     ∃ s57 : ByteArray,
     ∃ s58 : ByteArray,
     ∃ n59 : Int,
     (
      Row w27 { block := b24, off := (0 : Nat) } (0 : Nat) [Value.int IntKind.i64 n56, Value.string s57, Value.string s58, Value.int IntKind.i64 n59]) ∧
     Ca Try.prog (17 : Nat) #[Value.agg #[Value.int IntKind.i64 n56, Value.string s57, Value.string s58, Value.int IntKind.i64 n59]] w27 fun e60 w61 =>
     ∃ s62 : ByteArray,
     ∃ n63 : Int,
     (
      e60 = Ending.returned (Value.tuple #[Value.string s62, Value.int IntKind.i64 n63])) ∧
     Br (n63 != (0 : Int))
      (
       (
        WrRow w61 { block := b2, off := (0 : Nat) } (0 : Nat) [Value.int IntKind.i64 (0 : Int), Value.string { data := #[] }, Value.string { data := #[] }, Value.int IntKind.i64 (0 : Int)]) ∧
       LetW (setRow w61 { block := b2, off := (0 : Nat) } (0 : Nat) [Value.int IntKind.i64 (0 : Int), Value.string { data := #[] }, Value.string { data := #[] }, Value.int IntKind.i64 (0 : Int)]) fun w64 =>
       ∃ n65 : Int,
       ∃ s66 : ByteArray,
       ∃ s67 : ByteArray,
       ∃ n68 : Int,
       (
        Row w64 { block := b2, off := (0 : Nat) } (0 : Nat) [Value.int IntKind.i64 n65, Value.string s66, Value.string s67, Value.int IntKind.i64 n68]) ∧
       R (Ending.returned (Value.tuple #[Value.agg #[Value.int IntKind.i64 n65, Value.string s66, Value.string s67, Value.int IntKind.i64 n68], Value.int IntKind.i64 (10 : Int)])) w64)
      (
       Br (!s62.toList == s1.toList)
        (
         (
          WrRow w61 { block := b2, off := (0 : Nat) } (0 : Nat) [Value.int IntKind.i64 (0 : Int), Value.string { data := #[] }, Value.string { data := #[] }, Value.int IntKind.i64 (0 : Int)]) ∧
         LetW (setRow w61 { block := b2, off := (0 : Nat) } (0 : Nat) [Value.int IntKind.i64 (0 : Int), Value.string { data := #[] }, Value.string { data := #[] }, Value.int IntKind.i64 (0 : Int)]) fun w69 =>
         ∃ n70 : Int,
         ∃ s71 : ByteArray,
         ∃ s72 : ByteArray,
         ∃ n73 : Int,
         (
          Row w69 { block := b2, off := (0 : Nat) } (0 : Nat) [Value.int IntKind.i64 n70, Value.string s71, Value.string s72, Value.int IntKind.i64 n73]) ∧
         R (Ending.returned (Value.tuple #[Value.agg #[Value.int IntKind.i64 n70, Value.string s71, Value.string s72, Value.int IntKind.i64 n73], Value.int IntKind.i64 (10 : Int)])) w69)
        (
         ∃ n74 : Int,
         ∃ s75 : ByteArray,
         ∃ s76 : ByteArray,
         ∃ n77 : Int,
         (
          Row w61 { block := b24, off := (0 : Nat) } (0 : Nat) [Value.int IntKind.i64 n74, Value.string s75, Value.string s76, Value.int IntKind.i64 n77]) ∧
         (
          WrRow w61 { block := b2, off := (0 : Nat) } (0 : Nat) [Value.int IntKind.i64 n74, Value.string s75, Value.string s76, Value.int IntKind.i64 n77]) ∧
         LetW (setRow w61 { block := b2, off := (0 : Nat) } (0 : Nat) [Value.int IntKind.i64 n74, Value.string s75, Value.string s76, Value.int IntKind.i64 n77]) fun w78 =>
         ∃ n79 : Int,
         ∃ s80 : ByteArray,
         ∃ s81 : ByteArray,
         ∃ n82 : Int,
         (
          Row w78 { block := b2, off := (0 : Nat) } (0 : Nat) [Value.int IntKind.i64 n79, Value.string s80, Value.string s81, Value.int IntKind.i64 n82]) ∧
         R (Ending.returned (Value.tuple #[Value.agg #[Value.int IntKind.i64 n79, Value.string s80, Value.string s81, Value.int IntKind.i64 n82], Value.int IntKind.i64 (0 : Int)])) w78))))
  (
   Br (n6 == (4 : Int))
    (
     (
      Wr w26 { block := b24, off := (2 : Nat) }) ∧
     LetW (w26.setCell { block := b24, off := (2 : Nat) } (Value.string s16)) fun w83 =>
     Br (n6 == (4 : Int))
      (
       (
        Wr w83 { block := b24, off := (3 : Nat) }) ∧
       LetW (w83.setCell { block := b24, off := (3 : Nat) } (Value.int IntKind.i64 n21)) fun w84 =>
       ∃ n85 : Int,
       ∃ s86 : ByteArray,
       ∃ s87 : ByteArray,
       ∃ n88 : Int,
       (
        Row w84 { block := b24, off := (0 : Nat) } (0 : Nat) [Value.int IntKind.i64 n85, Value.string s86, Value.string s87, Value.int IntKind.i64 n88]) ∧
       Ca Try.prog (17 : Nat) #[Value.agg #[Value.int IntKind.i64 n85, Value.string s86, Value.string s87, Value.int IntKind.i64 n88]] w84 fun e89 w90 =>
       ∃ s91 : ByteArray,
       ∃ n92 : Int,
       (
        e89 = Ending.returned (Value.tuple #[Value.string s91, Value.int IntKind.i64 n92])) ∧
       Br (n92 != (0 : Int))
        (
         (
          WrRow w90 { block := b2, off := (0 : Nat) } (0 : Nat) [Value.int IntKind.i64 (0 : Int), Value.string { data := #[] }, Value.string { data := #[] }, Value.int IntKind.i64 (0 : Int)]) ∧
         LetW (setRow w90 { block := b2, off := (0 : Nat) } (0 : Nat) [Value.int IntKind.i64 (0 : Int), Value.string { data := #[] }, Value.string { data := #[] }, Value.int IntKind.i64 (0 : Int)]) fun w93 =>
         ∃ n94 : Int,
         ∃ s95 : ByteArray,
         ∃ s96 : ByteArray,
         ∃ n97 : Int,
         (
          Row w93 { block := b2, off := (0 : Nat) } (0 : Nat) [Value.int IntKind.i64 n94, Value.string s95, Value.string s96, Value.int IntKind.i64 n97]) ∧
         R (Ending.returned (Value.tuple #[Value.agg #[Value.int IntKind.i64 n94, Value.string s95, Value.string s96, Value.int IntKind.i64 n97], Value.int IntKind.i64 (10 : Int)])) w93)
        (
         Br (!s91.toList == s1.toList)
          (
           (
            WrRow w90 { block := b2, off := (0 : Nat) } (0 : Nat) [Value.int IntKind.i64 (0 : Int), Value.string { data := #[] }, Value.string { data := #[] }, Value.int IntKind.i64 (0 : Int)]) ∧
           LetW (setRow w90 { block := b2, off := (0 : Nat) } (0 : Nat) [Value.int IntKind.i64 (0 : Int), Value.string { data := #[] }, Value.string { data := #[] }, Value.int IntKind.i64 (0 : Int)]) fun w98 =>
           ∃ n99 : Int,
           ∃ s100 : ByteArray,
           ∃ s101 : ByteArray,
           ∃ n102 : Int,
           (
            Row w98 { block := b2, off := (0 : Nat) } (0 : Nat) [Value.int IntKind.i64 n99, Value.string s100, Value.string s101, Value.int IntKind.i64 n102]) ∧
           R (Ending.returned (Value.tuple #[Value.agg #[Value.int IntKind.i64 n99, Value.string s100, Value.string s101, Value.int IntKind.i64 n102], Value.int IntKind.i64 (10 : Int)])) w98)
          (
           ∃ n103 : Int,
           ∃ s104 : ByteArray,
           ∃ s105 : ByteArray,
           ∃ n106 : Int,
           (
            Row w90 { block := b24, off := (0 : Nat) } (0 : Nat) [Value.int IntKind.i64 n103, Value.string s104, Value.string s105, Value.int IntKind.i64 n106]) ∧
           (
            WrRow w90 { block := b2, off := (0 : Nat) } (0 : Nat) [Value.int IntKind.i64 n103, Value.string s104, Value.string s105, Value.int IntKind.i64 n106]) ∧
           LetW (setRow w90 { block := b2, off := (0 : Nat) } (0 : Nat) [Value.int IntKind.i64 n103, Value.string s104, Value.string s105, Value.int IntKind.i64 n106]) fun w107 =>
           ∃ n108 : Int,
           ∃ s109 : ByteArray,
           ∃ s110 : ByteArray,
           ∃ n111 : Int,
           (
            Row w107 { block := b2, off := (0 : Nat) } (0 : Nat) [Value.int IntKind.i64 n108, Value.string s109, Value.string s110, Value.int IntKind.i64 n111]) ∧
           R (Ending.returned (Value.tuple #[Value.agg #[Value.int IntKind.i64 n108, Value.string s109, Value.string s110, Value.int IntKind.i64 n111], Value.int IntKind.i64 (0 : Int)])) w107)))
      (
       ∃ n112 : Int,
       ∃ s113 : ByteArray,
       ∃ s114 : ByteArray,
       ∃ n115 : Int,
       (
        Row w83 { block := b24, off := (0 : Nat) } (0 : Nat) [Value.int IntKind.i64 n112, Value.string s113, Value.string s114, Value.int IntKind.i64 n115]) ∧
       Ca Try.prog (17 : Nat) #[Value.agg #[Value.int IntKind.i64 n112, Value.string s113, Value.string s114, Value.int IntKind.i64 n115]] w83 fun e116 w117 =>
       ∃ s118 : ByteArray,
       ∃ n119 : Int,
       (
        e116 = Ending.returned (Value.tuple #[Value.string s118, Value.int IntKind.i64 n119])) ∧
       Br (n119 != (0 : Int))
        (
         (
          WrRow w117 { block := b2, off := (0 : Nat) } (0 : Nat) [Value.int IntKind.i64 (0 : Int), Value.string { data := #[] }, Value.string { data := #[] }, Value.int IntKind.i64 (0 : Int)]) ∧
         LetW (setRow w117 { block := b2, off := (0 : Nat) } (0 : Nat) [Value.int IntKind.i64 (0 : Int), Value.string { data := #[] }, Value.string { data := #[] }, Value.int IntKind.i64 (0 : Int)]) fun w120 =>
         ∃ n121 : Int,
         ∃ s122 : ByteArray,
         ∃ s123 : ByteArray,
         ∃ n124 : Int,
         (
          Row w120 { block := b2, off := (0 : Nat) } (0 : Nat) [Value.int IntKind.i64 n121, Value.string s122, Value.string s123, Value.int IntKind.i64 n124]) ∧
         R (Ending.returned (Value.tuple #[Value.agg #[Value.int IntKind.i64 n121, Value.string s122, Value.string s123, Value.int IntKind.i64 n124], Value.int IntKind.i64 (10 : Int)])) w120)
        (
         Br (!s118.toList == s1.toList)
          (
           (
            WrRow w117 { block := b2, off := (0 : Nat) } (0 : Nat) [Value.int IntKind.i64 (0 : Int), Value.string { data := #[] }, Value.string { data := #[] }, Value.int IntKind.i64 (0 : Int)]) ∧
           LetW (setRow w117 { block := b2, off := (0 : Nat) } (0 : Nat) [Value.int IntKind.i64 (0 : Int), Value.string { data := #[] }, Value.string { data := #[] }, Value.int IntKind.i64 (0 : Int)]) fun w125 =>
           ∃ n126 : Int,
           ∃ s127 : ByteArray,
           ∃ s128 : ByteArray,
           ∃ n129 : Int,
           (
            Row w125 { block := b2, off := (0 : Nat) } (0 : Nat) [Value.int IntKind.i64 n126, Value.string s127, Value.string s128, Value.int IntKind.i64 n129]) ∧
           R (Ending.returned (Value.tuple #[Value.agg #[Value.int IntKind.i64 n126, Value.string s127, Value.string s128, Value.int IntKind.i64 n129], Value.int IntKind.i64 (10 : Int)])) w125)
          (
           ∃ n130 : Int,
           ∃ s131 : ByteArray,
           ∃ s132 : ByteArray,
           ∃ n133 : Int,
           (
            Row w117 { block := b24, off := (0 : Nat) } (0 : Nat) [Value.int IntKind.i64 n130, Value.string s131, Value.string s132, Value.int IntKind.i64 n133]) ∧
           (
            WrRow w117 { block := b2, off := (0 : Nat) } (0 : Nat) [Value.int IntKind.i64 n130, Value.string s131, Value.string s132, Value.int IntKind.i64 n133]) ∧
           LetW (setRow w117 { block := b2, off := (0 : Nat) } (0 : Nat) [Value.int IntKind.i64 n130, Value.string s131, Value.string s132, Value.int IntKind.i64 n133]) fun w134 =>
           ∃ n135 : Int,
           ∃ s136 : ByteArray,
           ∃ s137 : ByteArray,
           ∃ n138 : Int,
           (
            Row w134 { block := b2, off := (0 : Nat) } (0 : Nat) [Value.int IntKind.i64 n135, Value.string s136, Value.string s137, Value.int IntKind.i64 n138]) ∧
           R (Ending.returned (Value.tuple #[Value.agg #[Value.int IntKind.i64 n135, Value.string s136, Value.string s137, Value.int IntKind.i64 n138], Value.int IntKind.i64 (0 : Int)])) w134))))
    (
     Br (n6 == (4 : Int))
      (
       (
        Wr w26 { block := b24, off := (3 : Nat) }) ∧
       LetW (w26.setCell { block := b24, off := (3 : Nat) } (Value.int IntKind.i64 n21)) fun w139 =>
       ∃ n140 : Int,
       ∃ s141 : ByteArray,
       ∃ s142 : ByteArray,
       ∃ n143 : Int,
       (
        Row w139 { block := b24, off := (0 : Nat) } (0 : Nat) [Value.int IntKind.i64 n140, Value.string s141, Value.string s142, Value.int IntKind.i64 n143]) ∧
       Ca Try.prog (17 : Nat) #[Value.agg #[Value.int IntKind.i64 n140, Value.string s141, Value.string s142, Value.int IntKind.i64 n143]] w139 fun e144 w145 =>
       ∃ s146 : ByteArray,
       ∃ n147 : Int,
       (
        e144 = Ending.returned (Value.tuple #[Value.string s146, Value.int IntKind.i64 n147])) ∧
       Br (n147 != (0 : Int))
        (
         (
          WrRow w145 { block := b2, off := (0 : Nat) } (0 : Nat) [Value.int IntKind.i64 (0 : Int), Value.string { data := #[] }, Value.string { data := #[] }, Value.int IntKind.i64 (0 : Int)]) ∧
         LetW (setRow w145 { block := b2, off := (0 : Nat) } (0 : Nat) [Value.int IntKind.i64 (0 : Int), Value.string { data := #[] }, Value.string { data := #[] }, Value.int IntKind.i64 (0 : Int)]) fun w148 =>
         ∃ n149 : Int,
         ∃ s150 : ByteArray,
         ∃ s151 : ByteArray,
         ∃ n152 : Int,
         (
          Row w148 { block := b2, off := (0 : Nat) } (0 : Nat) [Value.int IntKind.i64 n149, Value.string s150, Value.string s151, Value.int IntKind.i64 n152]) ∧
         R (Ending.returned (Value.tuple #[Value.agg #[Value.int IntKind.i64 n149, Value.string s150, Value.string s151, Value.int IntKind.i64 n152], Value.int IntKind.i64 (10 : Int)])) w148)
        (
         Br (!s146.toList == s1.toList)
          (
           (
            WrRow w145 { block := b2, off := (0 : Nat) } (0 : Nat) [Value.int IntKind.i64 (0 : Int), Value.string { data := #[] }, Value.string { data := #[] }, Value.int IntKind.i64 (0 : Int)]) ∧
           LetW (setRow w145 { block := b2, off := (0 : Nat) } (0 : Nat) [Value.int IntKind.i64 (0 : Int), Value.string { data := #[] }, Value.string { data := #[] }, Value.int IntKind.i64 (0 : Int)]) fun w153 =>
           ∃ n154 : Int,
           ∃ s155 : ByteArray,
           ∃ s156 : ByteArray,
           ∃ n157 : Int,
           (
            Row w153 { block := b2, off := (0 : Nat) } (0 : Nat) [Value.int IntKind.i64 n154, Value.string s155, Value.string s156, Value.int IntKind.i64 n157]) ∧
           R (Ending.returned (Value.tuple #[Value.agg #[Value.int IntKind.i64 n154, Value.string s155, Value.string s156, Value.int IntKind.i64 n157], Value.int IntKind.i64 (10 : Int)])) w153)
          (
           ∃ n158 : Int,
           ∃ s159 : ByteArray,
           ∃ s160 : ByteArray,
           ∃ n161 : Int,
           (
            Row w145 { block := b24, off := (0 : Nat) } (0 : Nat) [Value.int IntKind.i64 n158, Value.string s159, Value.string s160, Value.int IntKind.i64 n161]) ∧
           (
            WrRow w145 { block := b2, off := (0 : Nat) } (0 : Nat) [Value.int IntKind.i64 n158, Value.string s159, Value.string s160, Value.int IntKind.i64 n161]) ∧
           LetW (setRow w145 { block := b2, off := (0 : Nat) } (0 : Nat) [Value.int IntKind.i64 n158, Value.string s159, Value.string s160, Value.int IntKind.i64 n161]) fun w162 =>
           ∃ n163 : Int,
           ∃ s164 : ByteArray,
           ∃ s165 : ByteArray,
           ∃ n166 : Int,
           (
            Row w162 { block := b2, off := (0 : Nat) } (0 : Nat) [Value.int IntKind.i64 n163, Value.string s164, Value.string s165, Value.int IntKind.i64 n166]) ∧
           R (Ending.returned (Value.tuple #[Value.agg #[Value.int IntKind.i64 n163, Value.string s164, Value.string s165, Value.int IntKind.i64 n166], Value.int IntKind.i64 (0 : Int)])) w162)))
      (
       ∃ n167 : Int,
       ∃ s168 : ByteArray,
       ∃ s169 : ByteArray,
       ∃ n170 : Int,
       (
        Row w26 { block := b24, off := (0 : Nat) } (0 : Nat) [Value.int IntKind.i64 n167, Value.string s168, Value.string s169, Value.int IntKind.i64 n170]) ∧
       Ca Try.prog (17 : Nat) #[Value.agg #[Value.int IntKind.i64 n167, Value.string s168, Value.string s169, Value.int IntKind.i64 n170]] w26 fun e171 w172 =>
       ∃ s173 : ByteArray,
       ∃ n174 : Int,
       (
        e171 = Ending.returned (Value.tuple #[Value.string s173, Value.int IntKind.i64 n174])) ∧
       Br (n174 != (0 : Int))
        (
         (
          WrRow w172 { block := b2, off := (0 : Nat) } (0 : Nat) [Value.int IntKind.i64 (0 : Int), Value.string { data := #[] }, Value.string { data := #[] }, Value.int IntKind.i64 (0 : Int)]) ∧
         LetW (setRow w172 { block := b2, off := (0 : Nat) } (0 : Nat) [Value.int IntKind.i64 (0 : Int), Value.string { data := #[] }, Value.string { data := #[] }, Value.int IntKind.i64 (0 : Int)]) fun w175 =>
         ∃ n176 : Int,
         ∃ s177 : ByteArray,
         ∃ s178 : ByteArray,
         ∃ n179 : Int,
         (
          Row w175 { block := b2, off := (0 : Nat) } (0 : Nat) [Value.int IntKind.i64 n176, Value.string s177, Value.string s178, Value.int IntKind.i64 n179]) ∧
         R (Ending.returned (Value.tuple #[Value.agg #[Value.int IntKind.i64 n176, Value.string s177, Value.string s178, Value.int IntKind.i64 n179], Value.int IntKind.i64 (10 : Int)])) w175)
        (
         Br (!s173.toList == s1.toList)
          (
           (
            WrRow w172 { block := b2, off := (0 : Nat) } (0 : Nat) [Value.int IntKind.i64 (0 : Int), Value.string { data := #[] }, Value.string { data := #[] }, Value.int IntKind.i64 (0 : Int)]) ∧
           LetW (setRow w172 { block := b2, off := (0 : Nat) } (0 : Nat) [Value.int IntKind.i64 (0 : Int), Value.string { data := #[] }, Value.string { data := #[] }, Value.int IntKind.i64 (0 : Int)]) fun w180 =>
           ∃ n181 : Int,
           ∃ s182 : ByteArray,
           ∃ s183 : ByteArray,
           ∃ n184 : Int,
           (
            Row w180 { block := b2, off := (0 : Nat) } (0 : Nat) [Value.int IntKind.i64 n181, Value.string s182, Value.string s183, Value.int IntKind.i64 n184]) ∧
           R (Ending.returned (Value.tuple #[Value.agg #[Value.int IntKind.i64 n181, Value.string s182, Value.string s183, Value.int IntKind.i64 n184], Value.int IntKind.i64 (10 : Int)])) w180)
          (
           ∃ n185 : Int,
           ∃ s186 : ByteArray,
           ∃ s187 : ByteArray,
           ∃ n188 : Int,
           (
            Row w172 { block := b24, off := (0 : Nat) } (0 : Nat) [Value.int IntKind.i64 n185, Value.string s186, Value.string s187, Value.int IntKind.i64 n188]) ∧
           (
            WrRow w172 { block := b2, off := (0 : Nat) } (0 : Nat) [Value.int IntKind.i64 n185, Value.string s186, Value.string s187, Value.int IntKind.i64 n188]) ∧
           LetW (setRow w172 { block := b2, off := (0 : Nat) } (0 : Nat) [Value.int IntKind.i64 n185, Value.string s186, Value.string s187, Value.int IntKind.i64 n188]) fun w189 =>
           ∃ n190 : Int,
           ∃ s191 : ByteArray,
           ∃ s192 : ByteArray,
           ∃ n193 : Int,
           (
            Row w189 { block := b2, off := (0 : Nat) } (0 : Nat) [Value.int IntKind.i64 n190, Value.string s191, Value.string s192, Value.int IntKind.i64 n193]) ∧
           R (Ending.returned (Value.tuple #[Value.agg #[Value.int IntKind.i64 n190, Value.string s191, Value.string s192, Value.int IntKind.i64 n193], Value.int IntKind.i64 (0 : Int)])) w189)))))
theorem roget_ok (s1 : ByteArray) (w : World) (R : Ending → World → Prop) (h : roget s1 w R) : Ca Try.prog 24 #[Value.string s1] w R :=
  Ca.of_fvc (c := bodyOf Try.f24) (by kernel_rfl) Try.func24 (by kernel_rfl) [] (Eq.mp (by kernel_rfl) h)

end Go.Proofs.Ytbdhdjbdooccoaa
