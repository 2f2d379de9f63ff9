/- The verification conditions of this seat's functions, printed by a program; the kernel holds each against the loaded code. -/
import Derived.Test.YtbdhdjbdooccoaaProg
import Derived.KernelRfl
import Derived.Test.YtbdhdjbdooccoaaV5
set_option maxRecDepth 100000
namespace Go.Proofs.Ytbdhdjbdooccoaa
open Go Go.Vc Go.Proofs
def size (n1 : Int) (w : World) (R : Ending → World → Prop) : Prop :=
 ∃ I2 : Nat → List Value → World → Prop,
 (
  ∃ k3 : Nat,
  I2 k3 [Value.int IntKind.i64 (0 : Int), Value.int IntKind.u64 n1] w) ∧
 ∀ n4 : Int,
 ∀ n5 : Int,
 ∀ k6 : Nat,
 ∀ w7 : World,
 (
  I2 k6 [Value.int IntKind.i64 n4, Value.int IntKind.u64 n5] w7) →
 Br (decide (n5 > (0 : Int)))
  (
   LetI (IntKind.i64.wrap (n4 + (1 : Int))) fun n8 =>
   (
    (0 : Int) ≤ (8 : Int)) ∧
   LetI (n5.fdiv ((2 : Int) ^ (8 : Nat))) fun n9 =>
   ∃ k10 : Nat,
   (
    k10 < k6) ∧
   I2 k10 [Value.int IntKind.i64 n8, Value.int IntKind.u64 n9] w7)
  (
   R (Ending.returned (Value.int IntKind.i64 n4)) w7)
theorem size_ok (n1 : Int) (w : World) (R : Ending → World → Prop) (h : size n1 w R) : Ca Try.prog 105 #[Value.int IntKind.u64 n1] w R :=
  Ca.of_fvc (c := bodyOf Try.f105) (by kernel_rfl) Try.func105 (by kernel_rfl) [] (Eq.mp (by kernel_rfl) h)

def num (n1 : Int) (w : World) (R : Ending → World → Prop) : Prop :=
 Br (decide (n1 < (248 : Int)))
  (
   LetI (IntKind.u8.wrap n1) fun n2 =>
   LetA (Obj.cells #[Value.int IntKind.u8 n2] (5 : Nat)) w fun b3 w4 =>
   RunsV Try.prog (convert (110 : Nat) (9 : Nat) (Value.slice (some { block := b3, off := (0 : Nat) }) (1 : Nat) (1 : Nat))) w4 fun v5 w6 =>
   ∃ s7 : ByteArray,
   (
    v5 = Value.string s7) ∧
   R (Ending.returned (Value.string s7)) w6)
  (
   Ca Try.prog (105 : Nat) #[Value.int IntKind.u64 n1] w fun e8 w9 =>
   ∃ n10 : Int,
   (
    e8 = Ending.returned (Value.int IntKind.i64 n10)) ∧
   RunsV Try.prog (Instr.makeSlice (110 : Nat) (Value.int IntKind.i64 (1 : Int)) (Value.int IntKind.i64 (9 : Int))) w9 fun v11 w12 =>
   ∃ p13 : Option Addr,
   ∃ k14 : Nat,
   ∃ k15 : Nat,
   (
    v11 = Value.slice p13 k14 k15) ∧
   LetI (IntKind.i64.wrap ((247 : Int) + n10)) fun n16 =>
   LetI (IntKind.u8.wrap n16) fun n17 =>
   NilOk p13 fun a18 =>
   (
    (
     (0 : Int) ≤ (0 : Int)) ∧
    (0 : Int) < (↑k14 : Int)) ∧
   (
    Wr w12 a18) ∧
   LetW (w12.setCell a18 (Value.int IntKind.u8 n17)) fun w19 =>
   LetI (IntKind.i64.wrap (n10 - (1 : Int))) fun n20 =>
   ∃ I21 : Nat → List Value → World → Prop,
   (
    ∃ k22 : Nat,
    I21 k22 [Value.slice p13 k14 k15, Value.int IntKind.i64 n20] w19) ∧
   ∀ p23 : Option Addr,
   ∀ k24 : Nat,
   ∀ k25 : Nat,
   ∀ n26 : Int,
   ∀ k27 : Nat,
   ∀ w28 : World,
   (
    I21 k27 [Value.slice p23 k24 k25, Value.int IntKind.i64 n26] w28) →
   Br (decide (n26 ≥ (0 : Int)))
    (
     LetI (IntKind.i64.wrap ((8 : Int) * n26)) fun n29 =>
     (
      (0 : Int) ≤ n29) ∧
     LetI (n1.fdiv ((2 : Int) ^ min n29.toNat (64 : Nat))) fun n30 =>
     LetI (IntKind.u8.wrap n30) fun n31 =>
     LetA (Obj.cells #[Value.int IntKind.u8 n31] (5 : Nat)) w28 fun b32 w33 =>
     RunsV Try.prog (Builtin.append_ #[(110 : Nat), (110 : Nat)] (110 : Nat) #[Value.slice p23 k24 k25, Value.slice (some { block := b32, off := (0 : Nat) }) (1 : Nat) (1 : Nat)]) w33 fun v34 w35 =>
     ∃ p36 : Option Addr,
     ∃ k37 : Nat,
     ∃ k38 : Nat,
     (
      v34 = Value.slice p36 k37 k38) ∧
     LetI (IntKind.i64.wrap (n26 - (1 : Int))) fun n39 =>
     ∃ k40 : Nat,
     (
      k40 < k27) ∧
     I21 k40 [Value.slice p36 k37 k38, Value.int IntKind.i64 n39] w35)
    (
     RunsV Try.prog (convert (110 : Nat) (9 : Nat) (Value.slice p23 k24 k25)) w28 fun v41 w42 =>
     ∃ s43 : ByteArray,
     (
      v41 = Value.string s43) ∧
     R (Ending.returned (Value.string s43)) w42))
theorem num_ok (n1 : Int) (w : World) (R : Ending → World → Prop) (h : num n1 w R) : Ca Try.prog 83 #[Value.int IntKind.u64 n1] w R :=
  Ca.of_fvc (c := bodyOf Try.f83) (by kernel_rfl) Try.func83 (by kernel_rfl) [] (Eq.mp (by kernel_rfl) h)

def int_ (n1 : Int) (w : World) (R : Ending → World → Prop) : Prop :=
 Br (decide (n1 < (-1 : Int)))
  (
   R (Ending.returned (Value.string { data := #[] })) w)
  (
   Br (decide (n1 > (1099511627776 : Int)))
    (
     R (Ending.returned (Value.string { data := #[] })) w)
    (
     LetI (IntKind.i64.wrap (n1 + (1 : Int))) fun n2 =>
     LetI (IntKind.u64.wrap n2) fun n3 =>
     Ca Try.prog (83 : Nat) #[Value.int IntKind.u64 n3] w fun e4 w5 =>
     ∃ s6 : ByteArray,
     (
      e4 = Ending.returned (Value.string s6)) ∧
     R (Ending.returned (Value.string s6)) w5))
theorem int__ok (n1 : Int) (w : World) (R : Ending → World → Prop) (h : int_ n1 w R) : Ca Try.prog 53 #[Value.int IntKind.i64 n1] w R :=
  Ca.of_fvc (c := bodyOf Try.f53) (by kernel_rfl) Try.func53 (by kernel_rfl) [] (Eq.mp (by kernel_rfl) h)

def text (s1 : ByteArray) (w : World) (R : Ending → World → Prop) : Prop :=
 LetI (IntKind.u64.wrap (↑s1.size : Int)) fun n2 =>
 Ca Try.prog (83 : Nat) #[Value.int IntKind.u64 n2] w fun e3 w4 =>
 ∃ s5 : ByteArray,
 (
  e3 = Ending.returned (Value.string s5)) ∧
 (
  (↑(s5.size + s1.size) : Int) ≤ IntKind.i64.max) ∧
 R (Ending.returned (Value.string (s5 ++ s1))) w4
theorem text_ok (s1 : ByteArray) (w : World) (R : Ending → World → Prop) (h : text s1 w R) : Ca Try.prog 54 #[Value.string s1] w R :=
  Ca.of_fvc (c := bodyOf Try.f54) (by kernel_rfl) Try.func54 (by kernel_rfl) [] (Eq.mp (by kernel_rfl) h)

def read (s1 : ByteArray) (w : World) (R : Ending → World → Prop) : Prop :=
 Br (s1.toList == [])
  (
   R (Ending.returned (Value.tuple #[Value.int IntKind.u64 (0 : Int), Value.string { data := #[] }, Value.bool false])) w)
  (
   (
    (
     (0 : Int) ≤ (0 : Int)) ∧
    (0 : Int) < (↑s1.size : Int)) ∧
   Br (decide ((↑(s1.data.getD (0 : Nat) (0 : UInt8)).toNat : Int) < (248 : Int)))
    (
     (
      (
       (0 : Int) ≤ (0 : Int)) ∧
      (0 : Int) < (↑s1.size : Int)) ∧
     LetI (IntKind.u64.wrap (↑(s1.data.getD (0 : Nat) (0 : UInt8)).toNat : Int)) fun n2 =>
     (
      (
       (0 : Int) ≤ (1 : Int)) ∧
      (
       (1 : Int) ≤ (↑s1.size : Int)) ∧
      (↑s1.size : Int) ≤ (↑s1.size : Int)) ∧
     R (Ending.returned (Value.tuple #[Value.int IntKind.u64 n2, Value.string (s1.extract (1 : Nat) (↑s1.size : Int).toNat), Value.bool true])) w)
    (
     (
      (
       (0 : Int) ≤ (0 : Int)) ∧
      (0 : Int) < (↑s1.size : Int)) ∧
     LetI (IntKind.i64.wrap (↑(s1.data.getD (0 : Nat) (0 : UInt8)).toNat : Int)) fun n3 =>
     LetI (IntKind.i64.wrap (n3 - (248 : Int))) fun n4 =>
     LetI (IntKind.i64.wrap (n4 + (1 : Int))) fun n5 =>
     LetI (IntKind.i64.wrap ((1 : Int) + n5)) fun n6 =>
     Br (decide ((↑s1.size : Int) < n6))
      (
       R (Ending.returned (Value.tuple #[Value.int IntKind.u64 (0 : Int), Value.string { data := #[] }, Value.bool false])) w)
      (
       (
        (
         (0 : Int) ≤ (1 : Int)) ∧
        (1 : Int) < (↑s1.size : Int)) ∧
       Br ((↑(s1.data.getD (1 : Nat) (0 : UInt8)).toNat : Int) == (0 : Int))
        (
         R (Ending.returned (Value.tuple #[Value.int IntKind.u64 (0 : Int), Value.string { data := #[] }, Value.bool false])) w)
        (
         LetI (IntKind.i64.wrap ((1 : Int) + n5)) fun n7 =>
         (
          (
           (0 : Int) ≤ (1 : Int)) ∧
          (
           (1 : Int) ≤ n7) ∧
          n7 ≤ (↑s1.size : Int)) ∧
         RunsV Try.prog (convert (9 : Nat) (110 : Nat) (Value.string (s1.extract (1 : Nat) n7.toNat))) w fun v8 w9 =>
         ∃ p10 : Option Addr,
         ∃ k11 : Nat,
         ∃ k12 : Nat,
         (
          v8 = Value.slice p10 k11 k12) ∧
         ∃ I13 : Nat → List Value → World → Prop,
         (
          ∃ k14 : Nat,
          I13 k14 [Value.int IntKind.u64 (0 : Int), Value.int IntKind.i64 (0 : Int)] w9) ∧
         ∀ n15 : Int,
         ∀ n16 : Int,
         ∀ k17 : Nat,
         ∀ w18 : World,
         (
          I13 k17 [Value.int IntKind.u64 n15, Value.int IntKind.i64 n16] w18) →
         Br (decide (n16 < (↑k11 : Int)))
          (
           NilOk p10 fun a19 =>
           (
            (
             (0 : Int) ≤ n16) ∧
            n16 < (↑k11 : Int)) ∧
           ∃ n20 : Int,
           (
            w18.cell? (a19.add (n16.toNat * (1 : Nat))) = some (Value.int IntKind.u8 n20)) ∧
           (
            (0 : Int) ≤ (8 : Int)) ∧
           LetI (IntKind.u64.wrap (n15 * (2 : Int) ^ (8 : Nat))) fun n21 =>
           LetI (IntKind.u64.wrap n20) fun n22 =>
           LetI (IntKind.i64.wrap (n16 + (1 : Int))) fun n23 =>
           ∃ k24 : Nat,
           (
            k24 < k17) ∧
           I13 k24 [Value.int IntKind.u64 (IntKind.u64.wrap (↑(BitVec.ofInt (64 : Nat) n21 ||| BitVec.ofInt (64 : Nat) n22).toNat : Int)), Value.int IntKind.i64 n23] w18)
          (
           Br (decide (n15 < (248 : Int)))
            (
             R (Ending.returned (Value.tuple #[Value.int IntKind.u64 (0 : Int), Value.string { data := #[] }, Value.bool false])) w18)
            (
             LetI (IntKind.i64.wrap ((1 : Int) + n5)) fun n25 =>
             (
              (
               (0 : Int) ≤ n25) ∧
              (
               n25 ≤ (↑s1.size : Int)) ∧
              (↑s1.size : Int) ≤ (↑s1.size : Int)) ∧
             R (Ending.returned (Value.tuple #[Value.int IntKind.u64 n15, Value.string (s1.extract n25.toNat (↑s1.size : Int).toNat), Value.bool true])) w18))))))
theorem read_ok (s1 : ByteArray) (w : World) (R : Ending → World → Prop) (h : read s1 w R) : Ca Try.prog 85 #[Value.string s1] w R :=
  Ca.of_fvc (c := bodyOf Try.f85) (by kernel_rfl) Try.func85 (by kernel_rfl) [] (Eq.mp (by kernel_rfl) h)

def unint (s1 : ByteArray) (w : World) (R : Ending → World → Prop) : Prop :=
 Ca Try.prog (85 : Nat) #[Value.string s1] w fun e2 w3 =>
 ∃ n4 : Int,
 ∃ s5 : ByteArray,
 ∃ b6 : Bool,
 (
  e2 = Ending.returned (Value.tuple #[Value.int IntKind.u64 n4, Value.string s5, Value.bool b6])) ∧
 Br (!b6)
  (
   R (Ending.returned (Value.tuple #[Value.int IntKind.i64 (0 : Int), Value.string { data := #[] }, Value.bool false])) w3)
  (
   Br (decide (n4 > (1099511627777 : Int)))
    (
     R (Ending.returned (Value.tuple #[Value.int IntKind.i64 (0 : Int), Value.string { data := #[] }, Value.bool false])) w3)
    (
     LetI (IntKind.i64.wrap n4) fun n7 =>
     LetI (IntKind.i64.wrap (n7 - (1 : Int))) fun n8 =>
     R (Ending.returned (Value.tuple #[Value.int IntKind.i64 n8, Value.string s5, Value.bool true])) w3))
theorem unint_ok (s1 : ByteArray) (w : World) (R : Ending → World → Prop) (h : unint s1 w R) : Ca Try.prog 58 #[Value.string s1] w R :=
  Ca.of_fvc (c := bodyOf Try.f58) (by kernel_rfl) Try.func58 (by kernel_rfl) [] (Eq.mp (by kernel_rfl) h)

def cut (s1 : ByteArray) (w : World) (R : Ending → World → Prop) : Prop :=
 Ca Try.prog (85 : Nat) #[Value.string s1] w fun e2 w3 =>
 ∃ n4 : Int,
 ∃ s5 : ByteArray,
 ∃ b6 : Bool,
 (
  e2 = Ending.returned (Value.tuple #[Value.int IntKind.u64 n4, Value.string s5, Value.bool b6])) ∧
 Br (!b6)
  (
   R (Ending.returned (Value.tuple #[Value.string { data := #[] }, Value.string { data := #[] }, Value.bool false])) w3)
  (
   LetI (IntKind.u64.wrap (↑s5.size : Int)) fun n7 =>
   Br (decide (n4 > n7))
    (
     R (Ending.returned (Value.tuple #[Value.string { data := #[] }, Value.string { data := #[] }, Value.bool false])) w3)
    (
     (
      (
       (0 : Int) ≤ (0 : Int)) ∧
      (
       (0 : Int) ≤ n4) ∧
      n4 ≤ (↑s5.size : Int)) ∧
     (
      (
       (0 : Int) ≤ n4) ∧
      (
       n4 ≤ (↑s5.size : Int)) ∧
      (↑s5.size : Int) ≤ (↑s5.size : Int)) ∧
     R (Ending.returned (Value.tuple #[Value.string (s5.extract (0 : Nat) n4.toNat), Value.string (s5.extract n4.toNat (↑s5.size : Int).toNat), Value.bool true])) w3))
theorem cut_ok (s1 : ByteArray) (w : World) (R : Ending → World → Prop) (h : cut s1 w R) : Ca Try.prog 59 #[Value.string s1] w R :=
  Ca.of_fvc (c := bodyOf Try.f59) (by kernel_rfl) Try.func59 (by kernel_rfl) [] (Eq.mp (by kernel_rfl) h)

def digits (n1 : Int) (w : World) (R : Ending → World → Prop) : Prop :=
 Br (decide (n1 < (256 : Int)))
  (
   LetI (IntKind.u8.wrap n1) fun n2 =>
   LetA (Obj.cells #[Value.int IntKind.u8 n2] (5 : Nat)) w fun b3 w4 =>
   R (Ending.returned (Value.slice (some { block := b3, off := (0 : Nat) }) (1 : Nat) (1 : Nat))) w4)
  (
   (
    (256 : Int) ≠ (0 : Int)) ∧
   LetI (IntKind.u64.wrap (n1.tdiv (256 : Int))) fun n5 =>
   Ca Try.prog (106 : Nat) #[Value.int IntKind.u64 n5] w fun e6 w7 =>
   ∃ p8 : Option Addr,
   ∃ k9 : Nat,
   ∃ k10 : Nat,
   (
    e6 = Ending.returned (Value.slice p8 k9 k10)) ∧
   (
    (256 : Int) ≠ (0 : Int)) ∧
   LetI (n1.tmod (256 : Int)) fun n11 =>
   LetI (IntKind.u8.wrap n11) fun n12 =>
   LetA (Obj.cells #[Value.int IntKind.u8 n12] (5 : Nat)) w7 fun b13 w14 =>
   RunsV Try.prog (Builtin.append_ #[(110 : Nat), (110 : Nat)] (110 : Nat) #[Value.slice p8 k9 k10, Value.slice (some { block := b13, off := (0 : Nat) }) (1 : Nat) (1 : Nat)]) w14 fun v15 w16 =>
   ∃ p17 : Option Addr,
   ∃ k18 : Nat,
   ∃ k19 : Nat,
   (
    v15 = Value.slice p17 k18 k19) ∧
   R (Ending.returned (Value.slice p17 k18 k19)) w16)
theorem digits_ok (n1 : Int) (w : World) (R : Ending → World → Prop) (h : digits n1 w R) : Ca Try.prog 106 #[Value.int IntKind.u64 n1] w R :=
  Ca.of_fvc (c := bodyOf Try.f106) (by kernel_rfl) Try.func106 (by kernel_rfl) [] (Eq.mp (by kernel_rfl) h)

def rnum (n1 : Int) (w : World) (R : Ending → World → Prop) : Prop :=
 Br (decide (n1 < (248 : Int)))
  (
   LetI (IntKind.u8.wrap n1) fun n2 =>
   LetA (Obj.cells #[Value.int IntKind.u8 n2] (5 : Nat)) w fun b3 w4 =>
   RunsV Try.prog (convert (110 : Nat) (9 : Nat) (Value.slice (some { block := b3, off := (0 : Nat) }) (1 : Nat) (1 : Nat))) w4 fun v5 w6 =>
   ∃ s7 : ByteArray,
   (
    v5 = Value.string s7) ∧
   R (Ending.returned (Value.string s7)) w6)
  (
   Ca Try.prog (106 : Nat) #[Value.int IntKind.u64 n1] w fun e8 w9 =>
   ∃ p10 : Option Addr,
   ∃ k11 : Nat,
   ∃ k12 : Nat,
   (
    e8 = Ending.returned (Value.slice p10 k11 k12)) ∧
   LetI (IntKind.i64.wrap ((247 : Int) + (↑k11 : Int))) fun n13 =>
   LetI (IntKind.u8.wrap n13) fun n14 =>
   LetA (Obj.cells #[Value.int IntKind.u8 n14] (5 : Nat)) w9 fun b15 w16 =>
   RunsV Try.prog (Builtin.append_ #[(110 : Nat), (110 : Nat)] (110 : Nat) #[Value.slice (some { block := b15, off := (0 : Nat) }) (1 : Nat) (1 : Nat), Value.slice p10 k11 k12]) w16 fun v17 w18 =>
   ∃ p19 : Option Addr,
   ∃ k20 : Nat,
   ∃ k21 : Nat,
   (
    v17 = Value.slice p19 k20 k21) ∧
   RunsV Try.prog (convert (110 : Nat) (9 : Nat) (Value.slice p19 k20 k21)) w18 fun v22 w23 =>
   ∃ s24 : ByteArray,
   (
    v22 = Value.string s24) ∧
   R (Ending.returned (Value.string s24)) w23)
theorem rnum_ok (n1 : Int) (w : World) (R : Ending → World → Prop) (h : rnum n1 w R) : Ca Try.prog 84 #[Value.int IntKind.u64 n1] w R :=
  Ca.of_fvc (c := bodyOf Try.f84) (by kernel_rfl) Try.func84 (by kernel_rfl) [] (Eq.mp (by kernel_rfl) h)

def rint (n1 : Int) (w : World) (R : Ending → World → Prop) : Prop :=
 Br (decide (n1 < (-1 : Int)))
  (
   R (Ending.returned (Value.string { data := #[] })) w)
  (
   Br (decide (n1 > (1099511627776 : Int)))
    (
     R (Ending.returned (Value.string { data := #[] })) w)
    (
     LetI (IntKind.i64.wrap (n1 + (1 : Int))) fun n2 =>
     LetI (IntKind.u64.wrap n2) fun n3 =>
     Ca Try.prog (84 : Nat) #[Value.int IntKind.u64 n3] w fun e4 w5 =>
     ∃ s6 : ByteArray,
     (
      e4 = Ending.returned (Value.string s6)) ∧
     R (Ending.returned (Value.string s6)) w5))
theorem rint_ok (n1 : Int) (w : World) (R : Ending → World → Prop) (h : rint n1 w R) : Ca Try.prog 56 #[Value.int IntKind.i64 n1] w R :=
  Ca.of_fvc (c := bodyOf Try.f56) (by kernel_rfl) Try.func56 (by kernel_rfl) [] (Eq.mp (by kernel_rfl) h)

def rtext (s1 : ByteArray) (w : World) (R : Ending → World → Prop) : Prop :=
 LetI (IntKind.u64.wrap (↑s1.size : Int)) fun n2 =>
 Ca Try.prog (84 : Nat) #[Value.int IntKind.u64 n2] w fun e3 w4 =>
 ∃ s5 : ByteArray,
 (
  e3 = Ending.returned (Value.string s5)) ∧
 (
  (↑(s5.size + s1.size) : Int) ≤ IntKind.i64.max) ∧
 R (Ending.returned (Value.string (s5 ++ s1))) w4
theorem rtext_ok (s1 : ByteArray) (w : World) (R : Ending → World → Prop) (h : rtext s1 w R) : Ca Try.prog 57 #[Value.string s1] w R :=
  Ca.of_fvc (c := bodyOf Try.f57) (by kernel_rfl) Try.func57 (by kernel_rfl) [] (Eq.mp (by kernel_rfl) h)

def rread (s1 : ByteArray) (w : World) (R : Ending → World → Prop) : Prop :=
 Br ((↑s1.size : Int) == (0 : Int))
  (
   R (Ending.returned (Value.tuple #[Value.int IntKind.u64 (0 : Int), Value.string { data := #[] }, Value.bool false])) w)
  (
   (
    (
     (0 : Int) ≤ (0 : Int)) ∧
    (0 : Int) < (↑s1.size : Int)) ∧
   Br (decide ((↑(s1.data.getD (0 : Nat) (0 : UInt8)).toNat : Int) > (247 : Int)))
    (
     (
      (
       (0 : Int) ≤ (0 : Int)) ∧
      (0 : Int) < (↑s1.size : Int)) ∧
     LetI (IntKind.i64.wrap (↑(s1.data.getD (0 : Nat) (0 : UInt8)).toNat : Int)) fun n2 =>
     LetI (IntKind.i64.wrap (n2 - (247 : Int))) fun n3 =>
     LetI (IntKind.i64.wrap ((1 : Int) + n3)) fun n4 =>
     Br (decide ((↑s1.size : Int) < n4))
      (
       R (Ending.returned (Value.tuple #[Value.int IntKind.u64 (0 : Int), Value.string { data := #[] }, Value.bool false])) w)
      (
       ∃ I5 : Nat → List Value → World → Prop,
       (
        ∃ k6 : Nat,
        I5 k6 [Value.int IntKind.u64 (0 : Int), Value.int IntKind.i64 (1 : Int)] w) ∧
       ∀ n7 : Int,
       ∀ n8 : Int,
       ∀ k9 : Nat,
       ∀ w10 : World,
       (
        I5 k9 [Value.int IntKind.u64 n7, Value.int IntKind.i64 n8] w10) →
       Br (decide (n8 ≤ n3))
        (
         LetI (IntKind.u64.wrap (n7 * (256 : Int))) fun n11 =>
         (
          (
           (0 : Int) ≤ n8) ∧
          n8 < (↑s1.size : Int)) ∧
         LetI (IntKind.u64.wrap (↑(s1.data.getD n8.toNat (0 : UInt8)).toNat : Int)) fun n12 =>
         LetI (IntKind.u64.wrap (n11 + n12)) fun n13 =>
         LetI (IntKind.i64.wrap (n8 + (1 : Int))) fun n14 =>
         ∃ k15 : Nat,
         (
          k15 < k9) ∧
         I5 k15 [Value.int IntKind.u64 n13, Value.int IntKind.i64 n14] w10)
        (
         Br (n3 == (0 : Int))
          (
           (
            (
             (0 : Int) ≤ (0 : Int)) ∧
            (0 : Int) < (↑s1.size : Int)) ∧
           LetI (IntKind.u64.wrap (↑(s1.data.getD (0 : Nat) (0 : UInt8)).toNat : Int)) fun n16 =>
           LetI (IntKind.i64.wrap ((1 : Int) + n3)) fun n17 =>
           (
            (
             (0 : Int) ≤ (0 : Int)) ∧
            (
             (0 : Int) ≤ n17) ∧
            n17 ≤ (↑s1.size : Int)) ∧
           Ca Try.prog (84 : Nat) #[Value.int IntKind.u64 n16] w10 fun e18 w19 =>
           ∃ s20 : ByteArray,
           (
            e18 = Ending.returned (Value.string s20)) ∧
           Br (!s20.toList == (s1.extract (0 : Nat) n17.toNat).toList)
            (
             R (Ending.returned (Value.tuple #[Value.int IntKind.u64 (0 : Int), Value.string { data := #[] }, Value.bool false])) w19)
            (
             LetI (IntKind.i64.wrap ((1 : Int) + n3)) fun n21 =>
             (
              (
               (0 : Int) ≤ n21) ∧
              (
               n21 ≤ (↑s1.size : Int)) ∧
              (↑s1.size : Int) ≤ (↑s1.size : Int)) ∧
             R (Ending.returned (Value.tuple #[Value.int IntKind.u64 n16, Value.string (s1.extract n21.toNat (↑s1.size : Int).toNat), Value.bool true])) w19))
          (
           LetI (IntKind.i64.wrap ((1 : Int) + n3)) fun n22 =>
           (
            (
             (0 : Int) ≤ (0 : Int)) ∧
            (
             (0 : Int) ≤ n22) ∧
            n22 ≤ (↑s1.size : Int)) ∧
           Ca Try.prog (84 : Nat) #[Value.int IntKind.u64 n7] w10 fun e23 w24 =>
           ∃ s25 : ByteArray,
           (
            e23 = Ending.returned (Value.string s25)) ∧
           Br (!s25.toList == (s1.extract (0 : Nat) n22.toNat).toList)
            (
             R (Ending.returned (Value.tuple #[Value.int IntKind.u64 (0 : Int), Value.string { data := #[] }, Value.bool false])) w24)
            (
             LetI (IntKind.i64.wrap ((1 : Int) + n3)) fun n26 =>
             (
              (
               (0 : Int) ≤ n26) ∧
              (
               n26 ≤ (↑s1.size : Int)) ∧
              (↑s1.size : Int) ≤ (↑s1.size : Int)) ∧
             R (Ending.returned (Value.tuple #[Value.int IntKind.u64 n7, Value.string (s1.extract n26.toNat (↑s1.size : Int).toNat), Value.bool true])) w24)))))
    (
     LetI (IntKind.i64.wrap ((1 : Int) + (0 : Int))) fun n27 =>
     Br (decide ((↑s1.size : Int) < n27))
      (
       R (Ending.returned (Value.tuple #[Value.int IntKind.u64 (0 : Int), Value.string { data := #[] }, Value.bool false])) w)
      (
       ∃ I28 : Nat → List Value → World → Prop,
       (
        ∃ k29 : Nat,
        I28 k29 [Value.int IntKind.u64 (0 : Int), Value.int IntKind.i64 (1 : Int)] w) ∧
       ∀ n30 : Int,
       ∀ n31 : Int,
       ∀ k32 : Nat,
       ∀ w33 : World,
       (
        I28 k32 [Value.int IntKind.u64 n30, Value.int IntKind.i64 n31] w33) →
       Br (decide (n31 ≤ (0 : Int)))
        (
         LetI (IntKind.u64.wrap (n30 * (256 : Int))) fun n34 =>
         (
          (
           (0 : Int) ≤ n31) ∧
          n31 < (↑s1.size : Int)) ∧
         LetI (IntKind.u64.wrap (↑(s1.data.getD n31.toNat (0 : UInt8)).toNat : Int)) fun n35 =>
         LetI (IntKind.u64.wrap (n34 + n35)) fun n36 =>
         LetI (IntKind.i64.wrap (n31 + (1 : Int))) fun n37 =>
         ∃ k38 : Nat,
         (
          k38 < k32) ∧
         I28 k38 [Value.int IntKind.u64 n36, Value.int IntKind.i64 n37] w33)
        (
         (
          (
           (0 : Int) ≤ (0 : Int)) ∧
          (0 : Int) < (↑s1.size : Int)) ∧
         LetI (IntKind.u64.wrap (↑(s1.data.getD (0 : Nat) (0 : UInt8)).toNat : Int)) fun n39 =>
         LetI (IntKind.i64.wrap ((1 : Int) + (0 : Int))) fun n40 =>
         (
          (
           (0 : Int) ≤ (0 : Int)) ∧
          (
           (0 : Int) ≤ n40) ∧
          n40 ≤ (↑s1.size : Int)) ∧
         Ca Try.prog (84 : Nat) #[Value.int IntKind.u64 n39] w33 fun e41 w42 =>
         ∃ s43 : ByteArray,
         (
          e41 = Ending.returned (Value.string s43)) ∧
         Br (!s43.toList == (s1.extract (0 : Nat) n40.toNat).toList)
          (
           R (Ending.returned (Value.tuple #[Value.int IntKind.u64 (0 : Int), Value.string { data := #[] }, Value.bool false])) w42)
          (
           LetI (IntKind.i64.wrap ((1 : Int) + (0 : Int))) fun n44 =>
           (
            (
             (0 : Int) ≤ n44) ∧
            (
             n44 ≤ (↑s1.size : Int)) ∧
            (↑s1.size : Int) ≤ (↑s1.size : Int)) ∧
           R (Ending.returned (Value.tuple #[Value.int IntKind.u64 n39, Value.string (s1.extract n44.toNat (↑s1.size : Int).toNat), Value.bool true])) w42)))))
theorem rread_ok (s1 : ByteArray) (w : World) (R : Ending → World → Prop) (h : rread s1 w R) : Ca Try.prog 86 #[Value.string s1] w R :=
  Ca.of_fvc (c := bodyOf Try.f86) (by kernel_rfl) Try.func86 (by kernel_rfl) [] (Eq.mp (by kernel_rfl) h)

def runint (s1 : ByteArray) (w : World) (R : Ending → World → Prop) : Prop :=
 Ca Try.prog (86 : Nat) #[Value.string s1] w fun e2 w3 =>
 ∃ n4 : Int,
 ∃ s5 : ByteArray,
 ∃ b6 : Bool,
 (
  e2 = Ending.returned (Value.tuple #[Value.int IntKind.u64 n4, Value.string s5, Value.bool b6])) ∧
 Br (!b6)
  (
   R (Ending.returned (Value.tuple #[Value.int IntKind.i64 (0 : Int), Value.string { data := #[] }, Value.bool false])) w3)
  (
   Br (decide (n4 > (1099511627777 : Int)))
    (
     R (Ending.returned (Value.tuple #[Value.int IntKind.i64 (0 : Int), Value.string { data := #[] }, Value.bool false])) w3)
    (
     LetI (IntKind.i64.wrap n4) fun n7 =>
     LetI (IntKind.i64.wrap (n7 - (1 : Int))) fun n8 =>
     R (Ending.returned (Value.tuple #[Value.int IntKind.i64 n8, Value.string s5, Value.bool true])) w3))
theorem runint_ok (s1 : ByteArray) (w : World) (R : Ending → World → Prop) (h : runint s1 w R) : Ca Try.prog 60 #[Value.string s1] w R :=
  Ca.of_fvc (c := bodyOf Try.f60) (by kernel_rfl) Try.func60 (by kernel_rfl) [] (Eq.mp (by kernel_rfl) h)

def rcut (s1 : ByteArray) (w : World) (R : Ending → World → Prop) : Prop :=
 Ca Try.prog (86 : Nat) #[Value.string s1] w fun e2 w3 =>
 ∃ n4 : Int,
 ∃ s5 : ByteArray,
 ∃ b6 : Bool,
 (
  e2 = Ending.returned (Value.tuple #[Value.int IntKind.u64 n4, Value.string s5, Value.bool b6])) ∧
 Br (!b6)
  (
   R (Ending.returned (Value.tuple #[Value.string { data := #[] }, Value.string { data := #[] }, Value.bool false])) w3)
  (
   LetI (IntKind.u64.wrap (↑s5.size : Int)) fun n7 =>
   Br (decide (n4 > n7))
    (
     R (Ending.returned (Value.tuple #[Value.string { data := #[] }, Value.string { data := #[] }, Value.bool false])) w3)
    (
     LetI (IntKind.i64.wrap n4) fun n8 =>
     (
      (
       (0 : Int) ≤ (0 : Int)) ∧
      (
       (0 : Int) ≤ n8) ∧
      n8 ≤ (↑s5.size : Int)) ∧
     LetI (IntKind.i64.wrap n4) fun n9 =>
     (
      (
       (0 : Int) ≤ n9) ∧
      (
       n9 ≤ (↑s5.size : Int)) ∧
      (↑s5.size : Int) ≤ (↑s5.size : Int)) ∧
     R (Ending.returned (Value.tuple #[Value.string (s5.extract (0 : Nat) n8.toNat), Value.string (s5.extract n9.toNat (↑s5.size : Int).toNat), Value.bool true])) w3))
theorem rcut_ok (s1 : ByteArray) (w : World) (R : Ending → World → Prop) (h : rcut s1 w R) : Ca Try.prog 61 #[Value.string s1] w R :=
  Ca.of_fvc (c := bodyOf Try.f61) (by kernel_rfl) Try.func61 (by kernel_rfl) [] (Eq.mp (by kernel_rfl) h)

end Go.Proofs.Ytbdhdjbdooccoaa
