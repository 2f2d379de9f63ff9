/- The verification conditions of this seat's functions, printed by a program; the kernel holds each against the loaded code. -/
import Derived.Test.YtkcljeonjhcjiaaProg
import Derived.KernelRfl
import Derived.Test.YtkcljeonjhcjiaaV5
set_option maxRecDepth 100000
namespace Go.Proofs.Ytkcljeonjhcjiaa
open Go Go.Vc Go.Proofs
def size (n1 : Int) (w : World) (R : Ending → World → Prop) : Prop :=
 ∃ I2 : Nat → List Value → World → Prop,
 (
  ∃ k3 : Nat,
  I2 k3 [Value.int IntKind.i64 (0 : Int), Value.int IntKind.u64 n1] w) ∧
 ∀ n4 : Int,
 ∀ n5 : Int,
 ∀ k6 : Nat,
 ∀ w7 : World,
 (
  I2 k6 [Value.int IntKind.i64 n4, Value.int IntKind.u64 n5] w7) →
 Br (decide (n5 > (0 : Int)))
  (
   LetI (IntKind.i64.wrap (n4 + (1 : Int))) fun n8 =>
   (
    (0 : Int) ≤ (8 : Int)) ∧
   LetI (n5.fdiv ((2 : Int) ^ (8 : Nat))) fun n9 =>
   ∃ k10 : Nat,
   (
    k10 < k6) ∧
   I2 k10 [Value.int IntKind.i64 n8, Value.int IntKind.u64 n9] w7)
  (
   R (Ending.returned (Value.int IntKind.i64 n4)) w7)
theorem size_ok (n1 : Int) (w : World) (R : Ending → World → Prop) (h : size n1 w R) : Ca Try.prog 21 #[Value.int IntKind.u64 n1] w R :=
  Ca.of_fvc (c := bodyOf Try.f21) (by kernel_rfl) Try.func21 (by kernel_rfl) [] (Eq.mp (by kernel_rfl) h)

def num (n1 : Int) (w : World) (R : Ending → World → Prop) : Prop :=
 Br (decide (n1 < (248 : Int)))
  (
   LetI (IntKind.u8.wrap n1) fun n2 =>
   LetA (Obj.cells #[Value.int IntKind.u8 n2] (5 : Nat)) w fun b3 w4 =>
   RunsV Try.prog (convert (37 : Nat) (9 : Nat) (Value.slice (some { block := b3, off := (0 : Nat) }) (1 : Nat) (1 : Nat))) w4 fun v5 w6 =>
   ∃ s7 : ByteArray,
   (
    v5 = Value.string s7) ∧
   R (Ending.returned (Value.string s7)) w6)
  (
   Ca Try.prog (21 : Nat) #[Value.int IntKind.u64 n1] w fun e8 w9 =>
   ∃ n10 : Int,
   (
    e8 = Ending.returned (Value.int IntKind.i64 n10)) ∧
   RunsV Try.prog (Instr.makeSlice (37 : Nat) (Value.int IntKind.i64 (1 : Int)) (Value.int IntKind.i64 (9 : Int))) w9 fun v11 w12 =>
   ∃ p13 : Option Addr,
   ∃ k14 : Nat,
   ∃ k15 : Nat,
   (
    v11 = Value.slice p13 k14 k15) ∧
   LetI (IntKind.i64.wrap ((247 : Int) + n10)) fun n16 =>
   LetI (IntKind.u8.wrap n16) fun n17 =>
   NilOk p13 fun a18 =>
   (
    (
     (0 : Int) ≤ (0 : Int)) ∧
    (0 : Int) < (↑k14 : Int)) ∧
   (
    Wr w12 a18) ∧
   LetW (w12.setCell a18 (Value.int IntKind.u8 n17)) fun w19 =>
   LetI (IntKind.i64.wrap (n10 - (1 : Int))) fun n20 =>
   ∃ I21 : Nat → List Value → World → Prop,
   (
    ∃ k22 : Nat,
    I21 k22 [Value.slice p13 k14 k15, Value.int IntKind.i64 n20] w19) ∧
   ∀ p23 : Option Addr,
   ∀ k24 : Nat,
   ∀ k25 : Nat,
   ∀ n26 : Int,
   ∀ k27 : Nat,
   ∀ w28 : World,
   (
    I21 k27 [Value.slice p23 k24 k25, Value.int IntKind.i64 n26] w28) →
   Br (decide (n26 ≥ (0 : Int)))
    (
     LetI (IntKind.i64.wrap ((8 : Int) * n26)) fun n29 =>
     (
      (0 : Int) ≤ n29) ∧
     LetI (n1.fdiv ((2 : Int) ^ min n29.toNat (64 : Nat))) fun n30 =>
     LetI (IntKind.u8.wrap n30) fun n31 =>
     LetA (Obj.cells #[Value.int IntKind.u8 n31] (5 : Nat)) w28 fun b32 w33 =>
     RunsV Try.prog (Builtin.append_ #[(37 : Nat), (37 : Nat)] (37 : Nat) #[Value.slice p23 k24 k25, Value.slice (some { block := b32, off := (0 : Nat) }) (1 : Nat) (1 : Nat)]) w33 fun v34 w35 =>
     ∃ p36 : Option Addr,
     ∃ k37 : Nat,
     ∃ k38 : Nat,
     (
      v34 = Value.slice p36 k37 k38) ∧
     LetI (IntKind.i64.wrap (n26 - (1 : Int))) fun n39 =>
     ∃ k40 : Nat,
     (
      k40 < k27) ∧
     I21 k40 [Value.slice p36 k37 k38, Value.int IntKind.i64 n39] w35)
    (
     RunsV Try.prog (convert (37 : Nat) (9 : Nat) (Value.slice p23 k24 k25)) w28 fun v41 w42 =>
     ∃ s43 : ByteArray,
     (
      v41 = Value.string s43) ∧
     R (Ending.returned (Value.string s43)) w42))
theorem num_ok (n1 : Int) (w : World) (R : Ending → World → Prop) (h : num n1 w R) : Ca Try.prog 8 #[Value.int IntKind.u64 n1] w R :=
  Ca.of_fvc (c := bodyOf Try.f8) (by kernel_rfl) Try.func8 (by kernel_rfl) [] (Eq.mp (by kernel_rfl) h)

def int_ (n1 : Int) (w : World) (R : Ending → World → Prop) : Prop :=
 Br (decide (n1 < (-1 : Int)))
  (
   R (Ending.returned (Value.string { data := #[] })) w)
  (
   Br (decide (n1 > (1099511627776 : Int)))
    (
     R (Ending.returned (Value.string { data := #[] })) w)
    (
     LetI (IntKind.i64.wrap (n1 + (1 : Int))) fun n2 =>
     LetI (IntKind.u64.wrap n2) fun n3 =>
     Ca Try.prog (8 : Nat) #[Value.int IntKind.u64 n3] w fun e4 w5 =>
     ∃ s6 : ByteArray,
     (
      e4 = Ending.returned (Value.string s6)) ∧
     R (Ending.returned (Value.string s6)) w5))
theorem int__ok (n1 : Int) (w : World) (R : Ending → World → Prop) (h : int_ n1 w R) : Ca Try.prog 10 #[Value.int IntKind.i64 n1] w R :=
  Ca.of_fvc (c := bodyOf Try.f10) (by kernel_rfl) Try.func10 (by kernel_rfl) [] (Eq.mp (by kernel_rfl) h)

def text (s1 : ByteArray) (w : World) (R : Ending → World → Prop) : Prop :=
 LetI (IntKind.u64.wrap (↑s1.size : Int)) fun n2 =>
 Ca Try.prog (8 : Nat) #[Value.int IntKind.u64 n2] w fun e3 w4 =>
 ∃ s5 : ByteArray,
 (
  e3 = Ending.returned (Value.string s5)) ∧
 (
  (↑(s5.size + s1.size) : Int) ≤ IntKind.i64.max) ∧
 R (Ending.returned (Value.string (s5 ++ s1))) w4
theorem text_ok (s1 : ByteArray) (w : World) (R : Ending → World → Prop) (h : text s1 w R) : Ca Try.prog 12 #[Value.string s1] w R :=
  Ca.of_fvc (c := bodyOf Try.f12) (by kernel_rfl) Try.func12 (by kernel_rfl) [] (Eq.mp (by kernel_rfl) h)

def read (s1 : ByteArray) (w : World) (R : Ending → World → Prop) : Prop :=
 Br (s1.toList == [])
  (
   R (Ending.returned (Value.tuple #[Value.int IntKind.u64 (0 : Int), Value.string { data := #[] }, Value.bool false])) w)
  (
   (
    (
     (0 : Int) ≤ (0 : Int)) ∧
    (0 : Int) < (↑s1.size : Int)) ∧
   Br (decide ((↑(s1.data.getD (0 : Nat) (0 : UInt8)).toNat : Int) < (248 : Int)))
    (
     (
      (
       (0 : Int) ≤ (0 : Int)) ∧
      (0 : Int) < (↑s1.size : Int)) ∧
     LetI (IntKind.u64.wrap (↑(s1.data.getD (0 : Nat) (0 : UInt8)).toNat : Int)) fun n2 =>
     (
      (
       (0 : Int) ≤ (1 : Int)) ∧
      (
       (1 : Int) ≤ (↑s1.size : Int)) ∧
      (↑s1.size : Int) ≤ (↑s1.size : Int)) ∧
     R (Ending.returned (Value.tuple #[Value.int IntKind.u64 n2, Value.string (s1.extract (1 : Nat) (↑s1.size : Int).toNat), Value.bool true])) w)
    (
     (
      (
       (0 : Int) ≤ (0 : Int)) ∧
      (0 : Int) < (↑s1.size : Int)) ∧
     LetI (IntKind.i64.wrap (↑(s1.data.getD (0 : Nat) (0 : UInt8)).toNat : Int)) fun n3 =>
     LetI (IntKind.i64.wrap (n3 - (248 : Int))) fun n4 =>
     LetI (IntKind.i64.wrap (n4 + (1 : Int))) fun n5 =>
     LetI (IntKind.i64.wrap ((1 : Int) + n5)) fun n6 =>
     Br (decide ((↑s1.size : Int) < n6))
      (
       R (Ending.returned (Value.tuple #[Value.int IntKind.u64 (0 : Int), Value.string { data := #[] }, Value.bool false])) w)
      (
       (
        (
         (0 : Int) ≤ (1 : Int)) ∧
        (1 : Int) < (↑s1.size : Int)) ∧
       Br ((↑(s1.data.getD (1 : Nat) (0 : UInt8)).toNat : Int) == (0 : Int))
        (
         R (Ending.returned (Value.tuple #[Value.int IntKind.u64 (0 : Int), Value.string { data := #[] }, Value.bool false])) w)
        (
         LetI (IntKind.i64.wrap ((1 : Int) + n5)) fun n7 =>
         (
          (
           (0 : Int) ≤ (1 : Int)) ∧
          (
           (1 : Int) ≤ n7) ∧
          n7 ≤ (↑s1.size : Int)) ∧
         RunsV Try.prog (convert (9 : Nat) (37 : Nat) (Value.string (s1.extract (1 : Nat) n7.toNat))) w fun v8 w9 =>
         ∃ p10 : Option Addr,
         ∃ k11 : Nat,
         ∃ k12 : Nat,
         (
          v8 = Value.slice p10 k11 k12) ∧
         ∃ I13 : Nat → List Value → World → Prop,
         (
          ∃ k14 : Nat,
          I13 k14 [Value.int IntKind.u64 (0 : Int), Value.int IntKind.i64 (0 : Int)] w9) ∧
         ∀ n15 : Int,
         ∀ n16 : Int,
         ∀ k17 : Nat,
         ∀ w18 : World,
         (
          I13 k17 [Value.int IntKind.u64 n15, Value.int IntKind.i64 n16] w18) →
         Br (decide (n16 < (↑k11 : Int)))
          (
           NilOk p10 fun a19 =>
           (
            (
             (0 : Int) ≤ n16) ∧
            n16 < (↑k11 : Int)) ∧
           ∃ n20 : Int,
           (
            w18.cell? (a19.add (n16.toNat * (1 : Nat))) = some (Value.int IntKind.u8 n20)) ∧
           (
            (0 : Int) ≤ (8 : Int)) ∧
           LetI (IntKind.u64.wrap (n15 * (2 : Int) ^ (8 : Nat))) fun n21 =>
           LetI (IntKind.u64.wrap n20) fun n22 =>
           LetI (IntKind.i64.wrap (n16 + (1 : Int))) fun n23 =>
           ∃ k24 : Nat,
           (
            k24 < k17) ∧
           I13 k24 [Value.int IntKind.u64 (IntKind.u64.wrap (↑(BitVec.ofInt (64 : Nat) n21 ||| BitVec.ofInt (64 : Nat) n22).toNat : Int)), Value.int IntKind.i64 n23] w18)
          (
           Br (decide (n15 < (248 : Int)))
            (
             R (Ending.returned (Value.tuple #[Value.int IntKind.u64 (0 : Int), Value.string { data := #[] }, Value.bool false])) w18)
            (
             LetI (IntKind.i64.wrap ((1 : Int) + n5)) fun n25 =>
             (
              (
               (0 : Int) ≤ n25) ∧
              (
               n25 ≤ (↑s1.size : Int)) ∧
              (↑s1.size : Int) ≤ (↑s1.size : Int)) ∧
             R (Ending.returned (Value.tuple #[Value.int IntKind.u64 n15, Value.string (s1.extract n25.toNat (↑s1.size : Int).toNat), Value.bool true])) w18))))))
theorem read_ok (s1 : ByteArray) (w : World) (R : Ending → World → Prop) (h : read s1 w R) : Ca Try.prog 14 #[Value.string s1] w R :=
  Ca.of_fvc (c := bodyOf Try.f14) (by kernel_rfl) Try.func14 (by kernel_rfl) [] (Eq.mp (by kernel_rfl) h)

def unint (s1 : ByteArray) (w : World) (R : Ending → World → Prop) : Prop :=
 Ca Try.prog (14 : Nat) #[Value.string s1] w fun e2 w3 =>
 ∃ n4 : Int,
 ∃ s5 : ByteArray,
 ∃ b6 : Bool,
 (
  e2 = Ending.returned (Value.tuple #[Value.int IntKind.u64 n4, Value.string s5, Value.bool b6])) ∧
 Br (!b6)
  (
   R (Ending.returned (Value.tuple #[Value.int IntKind.i64 (0 : Int), Value.string { data := #[] }, Value.bool false])) w3)
  (
   Br (decide (n4 > (1099511627777 : Int)))
    (
     R (Ending.returned (Value.tuple #[Value.int IntKind.i64 (0 : Int), Value.string { data := #[] }, Value.bool false])) w3)
    (
     LetI (IntKind.i64.wrap n4) fun n7 =>
     LetI (IntKind.i64.wrap (n7 - (1 : Int))) fun n8 =>
     R (Ending.returned (Value.tuple #[Value.int IntKind.i64 n8, Value.string s5, Value.bool true])) w3))
theorem unint_ok (s1 : ByteArray) (w : World) (R : Ending → World → Prop) (h : unint s1 w R) : Ca Try.prog 16 #[Value.string s1] w R :=
  Ca.of_fvc (c := bodyOf Try.f16) (by kernel_rfl) Try.func16 (by kernel_rfl) [] (Eq.mp (by kernel_rfl) h)

def cut (s1 : ByteArray) (w : World) (R : Ending → World → Prop) : Prop :=
 Ca Try.prog (14 : Nat) #[Value.string s1] w fun e2 w3 =>
 ∃ n4 : Int,
 ∃ s5 : ByteArray,
 ∃ b6 : Bool,
 (
  e2 = Ending.returned (Value.tuple #[Value.int IntKind.u64 n4, Value.string s5, Value.bool b6])) ∧
 Br (!b6)
  (
   R (Ending.returned (Value.tuple #[Value.string { data := #[] }, Value.string { data := #[] }, Value.bool false])) w3)
  (
   LetI (IntKind.u64.wrap (↑s5.size : Int)) fun n7 =>
   Br (decide (n4 > n7))
    (
     R (Ending.returned (Value.tuple #[Value.string { data := #[] }, Value.string { data := #[] }, Value.bool false])) w3)
    (
     (
      (
       (0 : Int) ≤ (0 : Int)) ∧
      (
       (0 : Int) ≤ n4) ∧
      n4 ≤ (↑s5.size : Int)) ∧
     (
      (
       (0 : Int) ≤ n4) ∧
      (
       n4 ≤ (↑s5.size : Int)) ∧
      (↑s5.size : Int) ≤ (↑s5.size : Int)) ∧
     R (Ending.returned (Value.tuple #[Value.string (s5.extract (0 : Nat) n4.toNat), Value.string (s5.extract n4.toNat (↑s5.size : Int).toNat), Value.bool true])) w3))
theorem cut_ok (s1 : ByteArray) (w : World) (R : Ending → World → Prop) (h : cut s1 w R) : Ca Try.prog 18 #[Value.string s1] w R :=
  Ca.of_fvc (c := bodyOf Try.f18) (by kernel_rfl) Try.func18 (by kernel_rfl) [] (Eq.mp (by kernel_rfl) h)

def digits (n1 : Int) (w : World) (R : Ending → World → Prop) : Prop :=
 Br (decide (n1 < (256 : Int)))
  (
   LetI (IntKind.u8.wrap n1) fun n2 =>
   LetA (Obj.cells #[Value.int IntKind.u8 n2] (5 : Nat)) w fun b3 w4 =>
   R (Ending.returned (Value.slice (some { block := b3, off := (0 : Nat) }) (1 : Nat) (1 : Nat))) w4)
  (
   (
    (256 : Int) ≠ (0 : Int)) ∧
   LetI (IntKind.u64.wrap (n1.tdiv (256 : Int))) fun n5 =>
   Ca Try.prog (22 : Nat) #[Value.int IntKind.u64 n5] w fun e6 w7 =>
   ∃ p8 : Option Addr,
   ∃ k9 : Nat,
   ∃ k10 : Nat,
   (
    e6 = Ending.returned (Value.slice p8 k9 k10)) ∧
   (
    (256 : Int) ≠ (0 : Int)) ∧
   LetI (n1.tmod (256 : Int)) fun n11 =>
   LetI (IntKind.u8.wrap n11) fun n12 =>
   LetA (Obj.cells #[Value.int IntKind.u8 n12] (5 : Nat)) w7 fun b13 w14 =>
   RunsV Try.prog (Builtin.append_ #[(37 : Nat), (37 : Nat)] (37 : Nat) #[Value.slice p8 k9 k10, Value.slice (some { block := b13, off := (0 : Nat) }) (1 : Nat) (1 : Nat)]) w14 fun v15 w16 =>
   ∃ p17 : Option Addr,
   ∃ k18 : Nat,
   ∃ k19 : Nat,
   (
    v15 = Value.slice p17 k18 k19) ∧
   R (Ending.returned (Value.slice p17 k18 k19)) w16)
theorem digits_ok (n1 : Int) (w : World) (R : Ending → World → Prop) (h : digits n1 w R) : Ca Try.prog 22 #[Value.int IntKind.u64 n1] w R :=
  Ca.of_fvc (c := bodyOf Try.f22) (by kernel_rfl) Try.func22 (by kernel_rfl) [] (Eq.mp (by kernel_rfl) h)

def rnum (n1 : Int) (w : World) (R : Ending → World → Prop) : Prop :=
 Br (decide (n1 < (248 : Int)))
  (
   LetI (IntKind.u8.wrap n1) fun n2 =>
   LetA (Obj.cells #[Value.int IntKind.u8 n2] (5 : Nat)) w fun b3 w4 =>
   RunsV Try.prog (convert (37 : Nat) (9 : Nat) (Value.slice (some { block := b3, off := (0 : Nat) }) (1 : Nat) (1 : Nat))) w4 fun v5 w6 =>
   ∃ s7 : ByteArray,
   (
    v5 = Value.string s7) ∧
   R (Ending.returned (Value.string s7)) w6)
  (
   Ca Try.prog (22 : Nat) #[Value.int IntKind.u64 n1] w fun e8 w9 =>
   ∃ p10 : Option Addr,
   ∃ k11 : Nat,
   ∃ k12 : Nat,
   (
    e8 = Ending.returned (Value.slice p10 k11 k12)) ∧
   LetI (IntKind.i64.wrap ((247 : Int) + (↑k11 : Int))) fun n13 =>
   LetI (IntKind.u8.wrap n13) fun n14 =>
   LetA (Obj.cells #[Value.int IntKind.u8 n14] (5 : Nat)) w9 fun b15 w16 =>
   RunsV Try.prog (Builtin.append_ #[(37 : Nat), (37 : Nat)] (37 : Nat) #[Value.slice (some { block := b15, off := (0 : Nat) }) (1 : Nat) (1 : Nat), Value.slice p10 k11 k12]) w16 fun v17 w18 =>
   ∃ p19 : Option Addr,
   ∃ k20 : Nat,
   ∃ k21 : Nat,
   (
    v17 = Value.slice p19 k20 k21) ∧
   RunsV Try.prog (convert (37 : Nat) (9 : Nat) (Value.slice p19 k20 k21)) w18 fun v22 w23 =>
   ∃ s24 : ByteArray,
   (
    v22 = Value.string s24) ∧
   R (Ending.returned (Value.string s24)) w23)
theorem rnum_ok (n1 : Int) (w : World) (R : Ending → World → Prop) (h : rnum n1 w R) : Ca Try.prog 9 #[Value.int IntKind.u64 n1] w R :=
  Ca.of_fvc (c := bodyOf Try.f9) (by kernel_rfl) Try.func9 (by kernel_rfl) [] (Eq.mp (by kernel_rfl) h)

def rint (n1 : Int) (w : World) (R : Ending → World → Prop) : Prop :=
 Br (decide (n1 < (-1 : Int)))
  (
   R (Ending.returned (Value.string { data := #[] })) w)
  (
   Br (decide (n1 > (1099511627776 : Int)))
    (
     R (Ending.returned (Value.string { data := #[] })) w)
    (
     LetI (IntKind.i64.wrap (n1 + (1 : Int))) fun n2 =>
     LetI (IntKind.u64.wrap n2) fun n3 =>
     Ca Try.prog (9 : Nat) #[Value.int IntKind.u64 n3] w fun e4 w5 =>
     ∃ s6 : ByteArray,
     (
      e4 = Ending.returned (Value.string s6)) ∧
     R (Ending.returned (Value.string s6)) w5))
theorem rint_ok (n1 : Int) (w : World) (R : Ending → World → Prop) (h : rint n1 w R) : Ca Try.prog 11 #[Value.int IntKind.i64 n1] w R :=
  Ca.of_fvc (c := bodyOf Try.f11) (by kernel_rfl) Try.func11 (by kernel_rfl) [] (Eq.mp (by kernel_rfl) h)

def rtext (s1 : ByteArray) (w : World) (R : Ending → World → Prop) : Prop :=
 LetI (IntKind.u64.wrap (↑s1.size : Int)) fun n2 =>
 Ca Try.prog (9 : Nat) #[Value.int IntKind.u64 n2] w fun e3 w4 =>
 ∃ s5 : ByteArray,
 (
  e3 = Ending.returned (Value.string s5)) ∧
 (
  (↑(s5.size + s1.size) : Int) ≤ IntKind.i64.max) ∧
 R (Ending.returned (Value.string (s5 ++ s1))) w4
theorem rtext_ok (s1 : ByteArray) (w : World) (R : Ending → World → Prop) (h : rtext s1 w R) : Ca Try.prog 13 #[Value.string s1] w R :=
  Ca.of_fvc (c := bodyOf Try.f13) (by kernel_rfl) Try.func13 (by kernel_rfl) [] (Eq.mp (by kernel_rfl) h)

def rread (s1 : ByteArray) (w : World) (R : Ending → World → Prop) : Prop :=
 Br ((↑s1.size : Int) == (0 : Int))
  (
   R (Ending.returned (Value.tuple #[Value.int IntKind.u64 (0 : Int), Value.string { data := #[] }, Value.bool false])) w)
  (
   (
    (
     (0 : Int) ≤ (0 : Int)) ∧
    (0 : Int) < (↑s1.size : Int)) ∧
   Br (decide ((↑(s1.data.getD (0 : Nat) (0 : UInt8)).toNat : Int) > (247 : Int)))
    (
     (
      (
       (0 : Int) ≤ (0 : Int)) ∧
      (0 : Int) < (↑s1.size : Int)) ∧
     LetI (IntKind.i64.wrap (↑(s1.data.getD (0 : Nat) (0 : UInt8)).toNat : Int)) fun n2 =>
     LetI (IntKind.i64.wrap (n2 - (247 : Int))) fun n3 =>
     LetI (IntKind.i64.wrap ((1 : Int) + n3)) fun n4 =>
     Br (decide ((↑s1.size : Int) < n4))
      (
       R (Ending.returned (Value.tuple #[Value.int IntKind.u64 (0 : Int), Value.string { data := #[] }, Value.bool false])) w)
      (
       ∃ I5 : Nat → List Value → World → Prop,
       (
        ∃ k6 : Nat,
        I5 k6 [Value.int IntKind.u64 (0 : Int), Value.int IntKind.i64 (1 : Int)] w) ∧
       ∀ n7 : Int,
       ∀ n8 : Int,
       ∀ k9 : Nat,
       ∀ w10 : World,
       (
        I5 k9 [Value.int IntKind.u64 n7, Value.int IntKind.i64 n8] w10) →
       Br (decide (n8 ≤ n3))
        (
         LetI (IntKind.u64.wrap (n7 * (256 : Int))) fun n11 =>
         (
          (
           (0 : Int) ≤ n8) ∧
          n8 < (↑s1.size : Int)) ∧
         LetI (IntKind.u64.wrap (↑(s1.data.getD n8.toNat (0 : UInt8)).toNat : Int)) fun n12 =>
         LetI (IntKind.u64.wrap (n11 + n12)) fun n13 =>
         LetI (IntKind.i64.wrap (n8 + (1 : Int))) fun n14 =>
         ∃ k15 : Nat,
         (
          k15 < k9) ∧
         I5 k15 [Value.int IntKind.u64 n13, Value.int IntKind.i64 n14] w10)
        (
         Br (n3 == (0 : Int))
          (
           (
            (
             (0 : Int) ≤ (0 : Int)) ∧
            (0 : Int) < (↑s1.size : Int)) ∧
           LetI (IntKind.u64.wrap (↑(s1.data.getD (0 : Nat) (0 : UInt8)).toNat : Int)) fun n16 =>
           LetI (IntKind.i64.wrap ((1 : Int) + n3)) fun n17 =>
           (
            (
             (0 : Int) ≤ (0 : Int)) ∧
            (
             (0 : Int) ≤ n17) ∧
            n17 ≤ (↑s1.size : Int)) ∧
           Ca Try.prog (9 : Nat) #[Value.int IntKind.u64 n16] w10 fun e18 w19 =>
           ∃ s20 : ByteArray,
           (
            e18 = Ending.returned (Value.string s20)) ∧
           Br (!s20.toList == (s1.extract (0 : Nat) n17.toNat).toList)
            (
             R (Ending.returned (Value.tuple #[Value.int IntKind.u64 (0 : Int), Value.string { data := #[] }, Value.bool false])) w19)
            (
             LetI (IntKind.i64.wrap ((1 : Int) + n3)) fun n21 =>
             (
              (
               (0 : Int) ≤ n21) ∧
              (
               n21 ≤ (↑s1.size : Int)) ∧
              (↑s1.size : Int) ≤ (↑s1.size : Int)) ∧
             R (Ending.returned (Value.tuple #[Value.int IntKind.u64 n16, Value.string (s1.extract n21.toNat (↑s1.size : Int).toNat), Value.bool true])) w19))
          (
           LetI (IntKind.i64.wrap ((1 : Int) + n3)) fun n22 =>
           (
            (
             (0 : Int) ≤ (0 : Int)) ∧
            (
             (0 : Int) ≤ n22) ∧
            n22 ≤ (↑s1.size : Int)) ∧
           Ca Try.prog (9 : Nat) #[Value.int IntKind.u64 n7] w10 fun e23 w24 =>
           ∃ s25 : ByteArray,
           (
            e23 = Ending.returned (Value.string s25)) ∧
           Br (!s25.toList == (s1.extract (0 : Nat) n22.toNat).toList)
            (
             R (Ending.returned (Value.tuple #[Value.int IntKind.u64 (0 : Int), Value.string { data := #[] }, Value.bool false])) w24)
            (
             LetI (IntKind.i64.wrap ((1 : Int) + n3)) fun n26 =>
             (
              (
               (0 : Int) ≤ n26) ∧
              (
               n26 ≤ (↑s1.size : Int)) ∧
              (↑s1.size : Int) ≤ (↑s1.size : Int)) ∧
             R (Ending.returned (Value.tuple #[Value.int IntKind.u64 n7, Value.string (s1.extract n26.toNat (↑s1.size : Int).toNat), Value.bool true])) w24)))))
    (
     LetI (IntKind.i64.wrap ((1 : Int) + (0 : Int))) fun n27 =>
     Br (decide ((↑s1.size : Int) < n27))
      (
       R (Ending.returned (Value.tuple #[Value.int IntKind.u64 (0 : Int), Value.string { data := #[] }, Value.bool false])) w)
      (
       ∃ I28 : Nat → List Value → World → Prop,
       (
        ∃ k29 : Nat,
        I28 k29 [Value.int IntKind.u64 (0 : Int), Value.int IntKind.i64 (1 : Int)] w) ∧
       ∀ n30 : Int,
       ∀ n31 : Int,
       ∀ k32 : Nat,
       ∀ w33 : World,
       (
        I28 k32 [Value.int IntKind.u64 n30, Value.int IntKind.i64 n31] w33) →
       Br (decide (n31 ≤ (0 : Int)))
        (
         LetI (IntKind.u64.wrap (n30 * (256 : Int))) fun n34 =>
         (
          (
           (0 : Int) ≤ n31) ∧
          n31 < (↑s1.size : Int)) ∧
         LetI (IntKind.u64.wrap (↑(s1.data.getD n31.toNat (0 : UInt8)).toNat : Int)) fun n35 =>
         LetI (IntKind.u64.wrap (n34 + n35)) fun n36 =>
         LetI (IntKind.i64.wrap (n31 + (1 : Int))) fun n37 =>
         ∃ k38 : Nat,
         (
          k38 < k32) ∧
         I28 k38 [Value.int IntKind.u64 n36, Value.int IntKind.i64 n37] w33)
        (
         (
          (
           (0 : Int) ≤ (0 : Int)) ∧
          (0 : Int) < (↑s1.size : Int)) ∧
         LetI (IntKind.u64.wrap (↑(s1.data.getD (0 : Nat) (0 : UInt8)).toNat : Int)) fun n39 =>
         LetI (IntKind.i64.wrap ((1 : Int) + (0 : Int))) fun n40 =>
         (
          (
           (0 : Int) ≤ (0 : Int)) ∧
          (
           (0 : Int) ≤ n40) ∧
          n40 ≤ (↑s1.size : Int)) ∧
         Ca Try.prog (9 : Nat) #[Value.int IntKind.u64 n39] w33 fun e41 w42 =>
         ∃ s43 : ByteArray,
         (
          e41 = Ending.returned (Value.string s43)) ∧
         Br (!s43.toList == (s1.extract (0 : Nat) n40.toNat).toList)
          (
           R (Ending.returned (Value.tuple #[Value.int IntKind.u64 (0 : Int), Value.string { data := #[] }, Value.bool false])) w42)
          (
           LetI (IntKind.i64.wrap ((1 : Int) + (0 : Int))) fun n44 =>
           (
            (
             (0 : Int) ≤ n44) ∧
            (
             n44 ≤ (↑s1.size : Int)) ∧
            (↑s1.size : Int) ≤ (↑s1.size : Int)) ∧
           R (Ending.returned (Value.tuple #[Value.int IntKind.u64 n39, Value.string (s1.extract n44.toNat (↑s1.size : Int).toNat), Value.bool true])) w42)))))
theorem rread_ok (s1 : ByteArray) (w : World) (R : Ending → World → Prop) (h : rread s1 w R) : Ca Try.prog 15 #[Value.string s1] w R :=
  Ca.of_fvc (c := bodyOf Try.f15) (by kernel_rfl) Try.func15 (by kernel_rfl) [] (Eq.mp (by kernel_rfl) h)

def runint (s1 : ByteArray) (w : World) (R : Ending → World → Prop) : Prop :=
 Ca Try.prog (15 : Nat) #[Value.string s1] w fun e2 w3 =>
 ∃ n4 : Int,
 ∃ s5 : ByteArray,
 ∃ b6 : Bool,
 (
  e2 = Ending.returned (Value.tuple #[Value.int IntKind.u64 n4, Value.string s5, Value.bool b6])) ∧
 Br (!b6)
  (
   R (Ending.returned (Value.tuple #[Value.int IntKind.i64 (0 : Int), Value.string { data := #[] }, Value.bool false])) w3)
  (
   Br (decide (n4 > (1099511627777 : Int)))
    (
     R (Ending.returned (Value.tuple #[Value.int IntKind.i64 (0 : Int), Value.string { data := #[] }, Value.bool false])) w3)
    (
     LetI (IntKind.i64.wrap n4) fun n7 =>
     LetI (IntKind.i64.wrap (n7 - (1 : Int))) fun n8 =>
     R (Ending.returned (Value.tuple #[Value.int IntKind.i64 n8, Value.string s5, Value.bool true])) w3))
theorem runint_ok (s1 : ByteArray) (w : World) (R : Ending → World → Prop) (h : runint s1 w R) : Ca Try.prog 17 #[Value.string s1] w R :=
  Ca.of_fvc (c := bodyOf Try.f17) (by kernel_rfl) Try.func17 (by kernel_rfl) [] (Eq.mp (by kernel_rfl) h)

def rcut (s1 : ByteArray) (w : World) (R : Ending → World → Prop) : Prop :=
 Ca Try.prog (15 : Nat) #[Value.string s1] w fun e2 w3 =>
 ∃ n4 : Int,
 ∃ s5 : ByteArray,
 ∃ b6 : Bool,
 (
  e2 = Ending.returned (Value.tuple #[Value.int IntKind.u64 n4, Value.string s5, Value.bool b6])) ∧
 Br (!b6)
  (
   R (Ending.returned (Value.tuple #[Value.string { data := #[] }, Value.string { data := #[] }, Value.bool false])) w3)
  (
   LetI (IntKind.u64.wrap (↑s5.size : Int)) fun n7 =>
   Br (decide (n4 > n7))
    (
     R (Ending.returned (Value.tuple #[Value.string { data := #[] }, Value.string { data := #[] }, Value.bool false])) w3)
    (
     LetI (IntKind.i64.wrap n4) fun n8 =>
     (
      (
       (0 : Int) ≤ (0 : Int)) ∧
      (
       (0 : Int) ≤ n8) ∧
      n8 ≤ (↑s5.size : Int)) ∧
     LetI (IntKind.i64.wrap n4) fun n9 =>
     (
      (
       (0 : Int) ≤ n9) ∧
      (
       n9 ≤ (↑s5.size : Int)) ∧
      (↑s5.size : Int) ≤ (↑s5.size : Int)) ∧
     R (Ending.returned (Value.tuple #[Value.string (s5.extract (0 : Nat) n8.toNat), Value.string (s5.extract n9.toNat (↑s5.size : Int).toNat), Value.bool true])) w3))
theorem rcut_ok (s1 : ByteArray) (w : World) (R : Ending → World → Prop) (h : rcut s1 w R) : Ca Try.prog 19 #[Value.string s1] w R :=
  Ca.of_fvc (c := bodyOf Try.f19) (by kernel_rfl) Try.func19 (by kernel_rfl) [] (Eq.mp (by kernel_rfl) h)

def no_ (s1 : ByteArray) (w : World) (R : Ending → World → Prop) : Prop :=
 Ca Try.prog (14 : Nat) #[Value.string s1] w fun e2 w3 =>
 ∃ n4 : Int,
 ∃ s5 : ByteArray,
 ∃ b6 : Bool,
 (
  e2 = Ending.returned (Value.tuple #[Value.int IntKind.u64 n4, Value.string s5, Value.bool b6])) ∧
 Br (n4 == (0 : Int))
  (
   Br (s5.toList == [])
    (
     R (Ending.returned (Value.bool !b6)) w3)
    (
     R (Ending.returned (Value.bool false)) w3))
  (
   R (Ending.returned (Value.bool false)) w3)
theorem no__ok (s1 : ByteArray) (w : World) (R : Ending → World → Prop) (h : no_ s1 w R) : Ca Try.prog 20 #[Value.string s1] w R :=
  Ca.of_fvc (c := bodyOf Try.f20) (by kernel_rfl) Try.func20 (by kernel_rfl) [] (Eq.mp (by kernel_rfl) h)

def coded (w : World) (R : Ending → World → Prop) : Prop :=
 Ca Try.prog (14 : Nat) #[Value.string { data := #[(249 : UInt8), (1 : UInt8), (44 : UInt8), (120 : UInt8)] }] w fun e1 w2 =>
 ∃ n3 : Int,
 ∃ s4 : ByteArray,
 ∃ b5 : Bool,
 (
  e1 = Ending.returned (Value.tuple #[Value.int IntKind.u64 n3, Value.string s4, Value.bool b5])) ∧
 Ca Try.prog (8 : Nat) #[Value.int IntKind.u64 (0 : Int)] w2 fun e6 w7 =>
 ∃ s8 : ByteArray,
 (
  e6 = Ending.returned (Value.string s8)) ∧
 Br (s8.toList == [(0 : UInt8)])
  (
   Ca Try.prog (8 : Nat) #[Value.int IntKind.u64 (247 : Int)] w7 fun e9 w10 =>
   ∃ s11 : ByteArray,
   (
    e9 = Ending.returned (Value.string s11)) ∧
   Br (s11.toList == [(247 : UInt8)])
    (
     Ca Try.prog (8 : Nat) #[Value.int IntKind.u64 (248 : Int)] w10 fun e12 w13 =>
     ∃ s14 : ByteArray,
     (
      e12 = Ending.returned (Value.string s14)) ∧
     Br (s14.toList == [(248 : UInt8), (248 : UInt8)])
      (
       Ca Try.prog (8 : Nat) #[Value.int IntKind.u64 (300 : Int)] w13 fun e15 w16 =>
       ∃ s17 : ByteArray,
       (
        e15 = Ending.returned (Value.string s17)) ∧
       Br (s17.toList == [(249 : UInt8), (1 : UInt8), (44 : UInt8)])
        (
         Br (n3 == (300 : Int))
          (
           Br (s4.toList == [(120 : UInt8)])
            (
             Br (b5)
              (
               Ca Try.prog (20 : Nat) #[Value.string { data := #[(248 : UInt8), (5 : UInt8)] }] w16 fun e18 w19 =>
               ∃ b20 : Bool,
               (
                e18 = Ending.returned (Value.bool b20)) ∧
               Br (b20)
                (
                 Ca Try.prog (20 : Nat) #[Value.string { data := #[(249 : UInt8), (0 : UInt8), (248 : UInt8)] }] w19 fun e21 w22 =>
                 ∃ b23 : Bool,
                 (
                  e21 = Ending.returned (Value.bool b23)) ∧
                 Br (b23)
                  (
                   Ca Try.prog (20 : Nat) #[Value.string { data := #[(248 : UInt8)] }] w22 fun e24 w25 =>
                   ∃ b26 : Bool,
                   (
                    e24 = Ending.returned (Value.bool b26)) ∧
                   Br (b26)
                    (
                     Ca Try.prog (10 : Nat) #[Value.int IntKind.i64 (-1 : Int)] w25 fun e27 w28 =>
                     ∃ s29 : ByteArray,
                     (
                      e27 = Ending.returned (Value.string s29)) ∧
                     Br (s29.toList == [(0 : UInt8)])
                      (
                       Ca Try.prog (10 : Nat) #[Value.int IntKind.i64 (246 : Int)] w28 fun e30 w31 =>
                       ∃ s32 : ByteArray,
                       (
                        e30 = Ending.returned (Value.string s32)) ∧
                       Br (s32.toList == [(247 : UInt8)])
                        (
                         Ca Try.prog (10 : Nat) #[Value.int IntKind.i64 (247 : Int)] w31 fun e33 w34 =>
                         ∃ s35 : ByteArray,
                         (
                          e33 = Ending.returned (Value.string s35)) ∧
                         Br (s35.toList == [(248 : UInt8), (248 : UInt8)])
                          (
                           Ca Try.prog (12 : Nat) #[Value.string { data := #[(97 : UInt8), (98 : UInt8)] }] w34 fun e36 w37 =>
                           ∃ s38 : ByteArray,
                           (
                            e36 = Ending.returned (Value.string s38)) ∧
                           R (Ending.returned (Value.bool (s38.toList == [(2 : UInt8), (97 : UInt8), (98 : UInt8)]))) w37)
                          (
                           R (Ending.returned (Value.bool false)) w34))
                        (
                         R (Ending.returned (Value.bool false)) w31))
                      (
                       R (Ending.returned (Value.bool false)) w28))
                    (
                     R (Ending.returned (Value.bool false)) w25))
                  (
                   R (Ending.returned (Value.bool false)) w22))
                (
                 R (Ending.returned (Value.bool false)) w19))
              (
               R (Ending.returned (Value.bool false)) w16))
            (
             R (Ending.returned (Value.bool false)) w16))
          (
           R (Ending.returned (Value.bool false)) w16))
        (
         R (Ending.returned (Value.bool false)) w16))
      (
       R (Ending.returned (Value.bool false)) w13))
    (
     R (Ending.returned (Value.bool false)) w10))
  (
   R (Ending.returned (Value.bool false)) w7)
theorem coded_ok (w : World) (R : Ending → World → Prop) (h : coded  w R) : Ca Try.prog 7 #[] w R :=
  Ca.of_fvc (c := bodyOf Try.f7) (by kernel_rfl) Try.func7 (by kernel_rfl) [] (Eq.mp (by kernel_rfl) h)

def lawPut (n1 : Int) (n2 : Int) (s3 : ByteArray) (w : World) (R : Ending → World → Prop) : Prop :=
 Br (decide ((↑s3.size : Int) > (1000 : Int)))
  (
   Ca Try.prog (7 : Nat) #[] w fun e4 w5 =>
   ∃ b6 : Bool,
   (
    e4 = Ending.returned (Value.bool b6)) ∧
   R (Ending.returned (Value.bool b6)) w5)
  (
   Ca Try.prog (8 : Nat) #[Value.int IntKind.u64 n1] w fun e7 w8 =>
   ∃ s9 : ByteArray,
   (
    e7 = Ending.returned (Value.string s9)) ∧
   Ca Try.prog (9 : Nat) #[Value.int IntKind.u64 n1] w8 fun e10 w11 =>
   ∃ s12 : ByteArray,
   (
    e10 = Ending.returned (Value.string s12)) ∧
   Br (s9.toList == s12.toList)
    (
     Ca Try.prog (10 : Nat) #[Value.int IntKind.i64 n2] w11 fun e13 w14 =>
     ∃ s15 : ByteArray,
     (
      e13 = Ending.returned (Value.string s15)) ∧
     Ca Try.prog (11 : Nat) #[Value.int IntKind.i64 n2] w14 fun e16 w17 =>
     ∃ s18 : ByteArray,
     (
      e16 = Ending.returned (Value.string s18)) ∧
     Br (s15.toList == s18.toList)
      (
       LetI (IntKind.i64.wrap (IntKind.i64.wrap (↑(BitVec.ofInt (64 : Nat) n2 &&& BitVec.ofInt (64 : Nat) (511 : Int)).toNat : Int) - (2 : Int))) fun n19 =>
       Ca Try.prog (10 : Nat) #[Value.int IntKind.i64 n19] w17 fun e20 w21 =>
       ∃ s22 : ByteArray,
       (
        e20 = Ending.returned (Value.string s22)) ∧
       LetI (IntKind.i64.wrap (IntKind.i64.wrap (↑(BitVec.ofInt (64 : Nat) n2 &&& BitVec.ofInt (64 : Nat) (511 : Int)).toNat : Int) - (2 : Int))) fun n23 =>
       Ca Try.prog (11 : Nat) #[Value.int IntKind.i64 n23] w21 fun e24 w25 =>
       ∃ s26 : ByteArray,
       (
        e24 = Ending.returned (Value.string s26)) ∧
       Br (s22.toList == s26.toList)
        (
         Ca Try.prog (12 : Nat) #[Value.string s3] w25 fun e27 w28 =>
         ∃ s29 : ByteArray,
         (
          e27 = Ending.returned (Value.string s29)) ∧
         Ca Try.prog (13 : Nat) #[Value.string s3] w28 fun e30 w31 =>
         ∃ s32 : ByteArray,
         (
          e30 = Ending.returned (Value.string s32)) ∧
         Br (s29.toList == s32.toList)
          (
           Ca Try.prog (7 : Nat) #[] w31 fun e33 w34 =>
           ∃ b35 : Bool,
           (
            e33 = Ending.returned (Value.bool b35)) ∧
           R (Ending.returned (Value.bool b35)) w34)
          (
           R (Ending.returned (Value.bool false)) w31))
        (
         R (Ending.returned (Value.bool false)) w25))
      (
       R (Ending.returned (Value.bool false)) w17))
    (
     R (Ending.returned (Value.bool false)) w11))
theorem lawPut_ok (n1 : Int) (n2 : Int) (s3 : ByteArray) (w : World) (R : Ending → World → Prop) (h : lawPut n1 n2 s3 w R) : Ca Try.prog 3 #[Value.int IntKind.u64 n1, Value.int IntKind.i64 n2, Value.string s3] w R :=
  Ca.of_fvc (c := bodyOf Try.f3) (by kernel_rfl) Try.func3 (by kernel_rfl) [] (Eq.mp (by kernel_rfl) h)

def lawRead (s1 : ByteArray) (w : World) (R : Ending → World → Prop) : Prop :=
 Br (decide ((↑s1.size : Int) > (1000 : Int)))
  (
   Ca Try.prog (7 : Nat) #[] w fun e2 w3 =>
   ∃ b4 : Bool,
   (
    e2 = Ending.returned (Value.bool b4)) ∧
   R (Ending.returned (Value.bool b4)) w3)
  (
   Ca Try.prog (14 : Nat) #[Value.string s1] w fun e5 w6 =>
   ∃ n7 : Int,
   ∃ s8 : ByteArray,
   ∃ b9 : Bool,
   (
    e5 = Ending.returned (Value.tuple #[Value.int IntKind.u64 n7, Value.string s8, Value.bool b9])) ∧
   Ca Try.prog (15 : Nat) #[Value.string s1] w6 fun e10 w11 =>
   ∃ n12 : Int,
   ∃ s13 : ByteArray,
   ∃ b14 : Bool,
   (
    e10 = Ending.returned (Value.tuple #[Value.int IntKind.u64 n12, Value.string s13, Value.bool b14])) ∧
   Ca Try.prog (16 : Nat) #[Value.string s1] w11 fun e15 w16 =>
   ∃ n17 : Int,
   ∃ s18 : ByteArray,
   ∃ b19 : Bool,
   (
    e15 = Ending.returned (Value.tuple #[Value.int IntKind.i64 n17, Value.string s18, Value.bool b19])) ∧
   Ca Try.prog (17 : Nat) #[Value.string s1] w16 fun e20 w21 =>
   ∃ n22 : Int,
   ∃ s23 : ByteArray,
   ∃ b24 : Bool,
   (
    e20 = Ending.returned (Value.tuple #[Value.int IntKind.i64 n22, Value.string s23, Value.bool b24])) ∧
   Ca Try.prog (18 : Nat) #[Value.string s1] w21 fun e25 w26 =>
   ∃ s27 : ByteArray,
   ∃ s28 : ByteArray,
   ∃ b29 : Bool,
   (
    e25 = Ending.returned (Value.tuple #[Value.string s27, Value.string s28, Value.bool b29])) ∧
   Ca Try.prog (19 : Nat) #[Value.string s1] w26 fun e30 w31 =>
   ∃ s32 : ByteArray,
   ∃ s33 : ByteArray,
   ∃ b34 : Bool,
   (
    e30 = Ending.returned (Value.tuple #[Value.string s32, Value.string s33, Value.bool b34])) ∧
   Br (n7 == n12)
    (
     Br (s8.toList == s13.toList)
      (
       Br (b9 == b14)
        (
         Br (n17 == n22)
          (
           Br (s18.toList == s23.toList)
            (
             Br (b19 == b24)
              (
               Br (s27.toList == s32.toList)
                (
                 Br (s28.toList == s33.toList)
                  (
                   Br (b29 == b34)
                    (
                     Ca Try.prog (7 : Nat) #[] w31 fun e35 w36 =>
                     ∃ b37 : Bool,
                     (
                      e35 = Ending.returned (Value.bool b37)) ∧
                     R (Ending.returned (Value.bool b37)) w36)
                    (
                     R (Ending.returned (Value.bool false)) w31))
                  (
                   R (Ending.returned (Value.bool false)) w31))
                (
                 R (Ending.returned (Value.bool false)) w31))
              (
               R (Ending.returned (Value.bool false)) w31))
            (
             R (Ending.returned (Value.bool false)) w31))
          (
           R (Ending.returned (Value.bool false)) w31))
        (
         R (Ending.returned (Value.bool false)) w31))
      (
       R (Ending.returned (Value.bool false)) w31))
    (
     R (Ending.returned (Value.bool false)) w31))
theorem lawRead_ok (s1 : ByteArray) (w : World) (R : Ending → World → Prop) (h : lawRead s1 w R) : Ca Try.prog 4 #[Value.string s1] w R :=
  Ca.of_fvc (c := bodyOf Try.f4) (by kernel_rfl) Try.func4 (by kernel_rfl) [] (Eq.mp (by kernel_rfl) h)

def lawBack (n1 : Int) (n2 : Int) (s3 : ByteArray) (w : World) (R : Ending → World → Prop) : Prop :=
 Br (decide ((↑s3.size : Int) > (500 : Int)))
  (
   Ca Try.prog (7 : Nat) #[] w fun e4 w5 =>
   ∃ b6 : Bool,
   (
    e4 = Ending.returned (Value.bool b6)) ∧
   R (Ending.returned (Value.bool b6)) w5)
  (
   LetI (IntKind.i64.wrap n2) fun n7 =>
   LetI (IntKind.i64.wrap (n7 - (1 : Int))) fun n8 =>
   Ca Try.prog (8 : Nat) #[Value.int IntKind.u64 n1] w fun e9 w10 =>
   ∃ s11 : ByteArray,
   (
    e9 = Ending.returned (Value.string s11)) ∧
   Ca Try.prog (10 : Nat) #[Value.int IntKind.i64 n8] w10 fun e12 w13 =>
   ∃ s14 : ByteArray,
   (
    e12 = Ending.returned (Value.string s14)) ∧
   Ca Try.prog (12 : Nat) #[Value.string s3] w13 fun e15 w16 =>
   ∃ s17 : ByteArray,
   (
    e15 = Ending.returned (Value.string s17)) ∧
   (
    (↑(s11.size + s14.size) : Int) ≤ IntKind.i64.max) ∧
   (
    (↑((s11 ++ s14).size + s17.size) : Int) ≤ IntKind.i64.max) ∧
   (
    (↑((s11 ++ s14 ++ s17).size + s3.size) : Int) ≤ IntKind.i64.max) ∧
   Ca Try.prog (14 : Nat) #[Value.string (s11 ++ s14 ++ s17 ++ s3)] w16 fun e18 w19 =>
   ∃ n20 : Int,
   ∃ s21 : ByteArray,
   ∃ b22 : Bool,
   (
    e18 = Ending.returned (Value.tuple #[Value.int IntKind.u64 n20, Value.string s21, Value.bool b22])) ∧
   Ca Try.prog (16 : Nat) #[Value.string s21] w19 fun e23 w24 =>
   ∃ n25 : Int,
   ∃ s26 : ByteArray,
   ∃ b27 : Bool,
   (
    e23 = Ending.returned (Value.tuple #[Value.int IntKind.i64 n25, Value.string s26, Value.bool b27])) ∧
   Ca Try.prog (18 : Nat) #[Value.string s26] w24 fun e28 w29 =>
   ∃ s30 : ByteArray,
   ∃ s31 : ByteArray,
   ∃ b32 : Bool,
   (
    e28 = Ending.returned (Value.tuple #[Value.string s30, Value.string s31, Value.bool b32])) ∧
   Br (n20 != n1)
    (
     R (Ending.returned (Value.bool false)) w29)
    (
     Br (!b22)
      (
       R (Ending.returned (Value.bool false)) w29)
      (
       Br (n25 != n8)
        (
         R (Ending.returned (Value.bool false)) w29)
        (
         Br (!b27)
          (
           R (Ending.returned (Value.bool false)) w29)
          (
           Br (!s30.toList == s3.toList)
            (
             R (Ending.returned (Value.bool false)) w29)
            (
             Br (!b32)
              (
               R (Ending.returned (Value.bool false)) w29)
              (
               Br (!s31.toList == s3.toList)
                (
                 R (Ending.returned (Value.bool false)) w29)
                (
                 Br ((↑s11.size : Int) == (0 : Int))
                  (
                   R (Ending.returned (Value.bool false)) w29)
                  (
                   Br (decide ((↑s11.size : Int) > (9 : Int)))
                    (
                     R (Ending.returned (Value.bool false)) w29)
                    (
                     Br ((↑s14.size : Int) == (0 : Int))
                      (
                       R (Ending.returned (Value.bool false)) w29)
                      (
                       Br (decide ((↑s17.size : Int) ≤ (↑s3.size : Int)))
                        (
                         R (Ending.returned (Value.bool false)) w29)
                        (
                         LetI (IntKind.i64.wrap ((↑s14.size : Int) - (1 : Int))) fun n33 =>
                         (
                          (
                           (0 : Int) ≤ (0 : Int)) ∧
                          (
                           (0 : Int) ≤ n33) ∧
                          n33 ≤ (↑s14.size : Int)) ∧
                         Ca Try.prog (16 : Nat) #[Value.string (s14.extract (0 : Nat) n33.toNat)] w29 fun e34 w35 =>
                         ∃ n36 : Int,
                         ∃ s37 : ByteArray,
                         ∃ b38 : Bool,
                         (
                          e34 = Ending.returned (Value.tuple #[Value.int IntKind.i64 n36, Value.string s37, Value.bool b38])) ∧
                         LetI (IntKind.i64.wrap ((↑s17.size : Int) - (1 : Int))) fun n39 =>
                         (
                          (
                           (0 : Int) ≤ (0 : Int)) ∧
                          (
                           (0 : Int) ≤ n39) ∧
                          n39 ≤ (↑s17.size : Int)) ∧
                         Ca Try.prog (18 : Nat) #[Value.string (s17.extract (0 : Nat) n39.toNat)] w35 fun e40 w41 =>
                         ∃ s42 : ByteArray,
                         ∃ s43 : ByteArray,
                         ∃ b44 : Bool,
                         (
                          e40 = Ending.returned (Value.tuple #[Value.string s42, Value.string s43, Value.bool b44])) ∧
                         LetI (IntKind.i64.wrap ((↑s11.size : Int) - (1 : Int))) fun n45 =>
                         (
                          (
                           (0 : Int) ≤ (0 : Int)) ∧
                          (
                           (0 : Int) ≤ n45) ∧
                          n45 ≤ (↑s11.size : Int)) ∧
                         Ca Try.prog (20 : Nat) #[Value.string (s11.extract (0 : Nat) n45.toNat)] w41 fun e46 w47 =>
                         ∃ b48 : Bool,
                         (
                          e46 = Ending.returned (Value.bool b48)) ∧
                         Br (b48)
                          (
                           Br (!b38)
                            (
                             Br (!b44)
                              (
                               Ca Try.prog (7 : Nat) #[] w47 fun e49 w50 =>
                               ∃ b51 : Bool,
                               (
                                e49 = Ending.returned (Value.bool b51)) ∧
                               R (Ending.returned (Value.bool b51)) w50)
                              (
                               R (Ending.returned (Value.bool false)) w47))
                            (
                             R (Ending.returned (Value.bool false)) w47))
                          (
                           R (Ending.returned (Value.bool false)) w47)))))))))))))
theorem lawBack_ok (n1 : Int) (n2 : Int) (s3 : ByteArray) (w : World) (R : Ending → World → Prop) (h : lawBack n1 n2 s3 w R) : Ca Try.prog 5 #[Value.int IntKind.u64 n1, Value.int IntKind.u16 n2, Value.string s3] w R :=
  Ca.of_fvc (c := bodyOf Try.f5) (by kernel_rfl) Try.func5 (by kernel_rfl) [] (Eq.mp (by kernel_rfl) h)

def lawForm (s1 : ByteArray) (w : World) (R : Ending → World → Prop) : Prop :=
 Br (decide ((↑s1.size : Int) > (1000 : Int)))
  (
   Ca Try.prog (7 : Nat) #[] w fun e2 w3 =>
   ∃ b4 : Bool,
   (
    e2 = Ending.returned (Value.bool b4)) ∧
   R (Ending.returned (Value.bool b4)) w3)
  (
   Ca Try.prog (14 : Nat) #[Value.string s1] w fun e5 w6 =>
   ∃ n7 : Int,
   ∃ s8 : ByteArray,
   ∃ b9 : Bool,
   (
    e5 = Ending.returned (Value.tuple #[Value.int IntKind.u64 n7, Value.string s8, Value.bool b9])) ∧
   Ca Try.prog (16 : Nat) #[Value.string s1] w6 fun e10 w11 =>
   ∃ n12 : Int,
   ∃ s13 : ByteArray,
   ∃ b14 : Bool,
   (
    e10 = Ending.returned (Value.tuple #[Value.int IntKind.i64 n12, Value.string s13, Value.bool b14])) ∧
   Ca Try.prog (18 : Nat) #[Value.string s1] w11 fun e15 w16 =>
   ∃ s17 : ByteArray,
   ∃ s18 : ByteArray,
   ∃ b19 : Bool,
   (
    e15 = Ending.returned (Value.tuple #[Value.string s17, Value.string s18, Value.bool b19])) ∧
   Br (b9)
    (
     Ca Try.prog (8 : Nat) #[Value.int IntKind.u64 n7] w16 fun e20 w21 =>
     ∃ s22 : ByteArray,
     (
      e20 = Ending.returned (Value.string s22)) ∧
     (
      (↑(s22.size + s8.size) : Int) ≤ IntKind.i64.max) ∧
     Br (!(s22 ++ s8).toList == s1.toList)
      (
       R (Ending.returned (Value.bool false)) w21)
      (
       Br (b14)
        (
         Ca Try.prog (10 : Nat) #[Value.int IntKind.i64 n12] w21 fun e23 w24 =>
         ∃ s25 : ByteArray,
         (
          e23 = Ending.returned (Value.string s25)) ∧
         (
          (↑(s25.size + s13.size) : Int) ≤ IntKind.i64.max) ∧
         Br (!(s25 ++ s13).toList == s1.toList)
          (
           R (Ending.returned (Value.bool false)) w24)
          (
           Br (decide (n12 < (-1 : Int)))
            (
             R (Ending.returned (Value.bool false)) w24)
            (
             Br (b19)
              (
               Ca Try.prog (12 : Nat) #[Value.string s17] w24 fun e26 w27 =>
               ∃ s28 : ByteArray,
               (
                e26 = Ending.returned (Value.string s28)) ∧
               (
                (↑(s28.size + s18.size) : Int) ≤ IntKind.i64.max) ∧
               Br (!(s28 ++ s18).toList == s1.toList)
                (
                 R (Ending.returned (Value.bool false)) w27)
                (
                 Br (b9)
                  (
                   Br (b14)
                    (
                     Br (b19)
                      (
                       Ca Try.prog (7 : Nat) #[] w27 fun e29 w30 =>
                       ∃ b31 : Bool,
                       (
                        e29 = Ending.returned (Value.bool b31)) ∧
                       R (Ending.returned (Value.bool b31)) w30)
                      (
                       Br (s17.toList == [])
                        (
                         Br (s18.toList == [])
                          (
                           Ca Try.prog (7 : Nat) #[] w27 fun e32 w33 =>
                           ∃ b34 : Bool,
                           (
                            e32 = Ending.returned (Value.bool b34)) ∧
                           R (Ending.returned (Value.bool b34)) w33)
                          (
                           R (Ending.returned (Value.bool false)) w27))
                        (
                         R (Ending.returned (Value.bool false)) w27)))
                    (
                     Br (n12 == (0 : Int))
                      (
                       Br (s13.toList == [])
                        (
                         Br (b19)
                          (
                           Ca Try.prog (7 : Nat) #[] w27 fun e35 w36 =>
                           ∃ b37 : Bool,
                           (
                            e35 = Ending.returned (Value.bool b37)) ∧
                           R (Ending.returned (Value.bool b37)) w36)
                          (
                           Br (s17.toList == [])
                            (
                             Br (s18.toList == [])
                              (
                               Ca Try.prog (7 : Nat) #[] w27 fun e38 w39 =>
                               ∃ b40 : Bool,
                               (
                                e38 = Ending.returned (Value.bool b40)) ∧
                               R (Ending.returned (Value.bool b40)) w39)
                              (
                               R (Ending.returned (Value.bool false)) w27))
                            (
                             R (Ending.returned (Value.bool false)) w27)))
                        (
                         R (Ending.returned (Value.bool false)) w27))
                      (
                       R (Ending.returned (Value.bool false)) w27)))
                  (
                   Br (n7 == (0 : Int))
                    (
                     Br (s8.toList == [])
                      (
                       Br (b14)
                        (
                         Br (b19)
                          (
                           Ca Try.prog (7 : Nat) #[] w27 fun e41 w42 =>
                           ∃ b43 : Bool,
                           (
                            e41 = Ending.returned (Value.bool b43)) ∧
                           R (Ending.returned (Value.bool b43)) w42)
                          (
                           Br (s17.toList == [])
                            (
                             Br (s18.toList == [])
                              (
                               Ca Try.prog (7 : Nat) #[] w27 fun e44 w45 =>
                               ∃ b46 : Bool,
                               (
                                e44 = Ending.returned (Value.bool b46)) ∧
                               R (Ending.returned (Value.bool b46)) w45)
                              (
                               R (Ending.returned (Value.bool false)) w27))
                            (
                             R (Ending.returned (Value.bool false)) w27)))
                        (
                         Br (n12 == (0 : Int))
                          (
                           Br (s13.toList == [])
                            (
                             Br (b19)
                              (
                               Ca Try.prog (7 : Nat) #[] w27 fun e47 w48 =>
                               ∃ b49 : Bool,
                               (
                                e47 = Ending.returned (Value.bool b49)) ∧
                               R (Ending.returned (Value.bool b49)) w48)
                              (
                               Br (s17.toList == [])
                                (
                                 Br (s18.toList == [])
                                  (
                                   Ca Try.prog (7 : Nat) #[] w27 fun e50 w51 =>
                                   ∃ b52 : Bool,
                                   (
                                    e50 = Ending.returned (Value.bool b52)) ∧
                                   R (Ending.returned (Value.bool b52)) w51)
                                  (
                                   R (Ending.returned (Value.bool false)) w27))
                                (
                                 R (Ending.returned (Value.bool false)) w27)))
                            (
                             R (Ending.returned (Value.bool false)) w27))
                          (
                           R (Ending.returned (Value.bool false)) w27)))
                      (
                       R (Ending.returned (Value.bool false)) w27))
                    (
                     R (Ending.returned (Value.bool false)) w27))))
              (
               Br (b9)
                (
                 Br (b14)
                  (
                   Br (b19)
                    (
                     Ca Try.prog (7 : Nat) #[] w24 fun e53 w54 =>
                     ∃ b55 : Bool,
                     (
                      e53 = Ending.returned (Value.bool b55)) ∧
                     R (Ending.returned (Value.bool b55)) w54)
                    (
                     Br (s17.toList == [])
                      (
                       Br (s18.toList == [])
                        (
                         Ca Try.prog (7 : Nat) #[] w24 fun e56 w57 =>
                         ∃ b58 : Bool,
                         (
                          e56 = Ending.returned (Value.bool b58)) ∧
                         R (Ending.returned (Value.bool b58)) w57)
                        (
                         R (Ending.returned (Value.bool false)) w24))
                      (
                       R (Ending.returned (Value.bool false)) w24)))
                  (
                   Br (n12 == (0 : Int))
                    (
                     Br (s13.toList == [])
                      (
                       Br (b19)
                        (
                         Ca Try.prog (7 : Nat) #[] w24 fun e59 w60 =>
                         ∃ b61 : Bool,
                         (
                          e59 = Ending.returned (Value.bool b61)) ∧
                         R (Ending.returned (Value.bool b61)) w60)
                        (
                         Br (s17.toList == [])
                          (
                           Br (s18.toList == [])
                            (
                             Ca Try.prog (7 : Nat) #[] w24 fun e62 w63 =>
                             ∃ b64 : Bool,
                             (
                              e62 = Ending.returned (Value.bool b64)) ∧
                             R (Ending.returned (Value.bool b64)) w63)
                            (
                             R (Ending.returned (Value.bool false)) w24))
                          (
                           R (Ending.returned (Value.bool false)) w24)))
                      (
                       R (Ending.returned (Value.bool false)) w24))
                    (
                     R (Ending.returned (Value.bool false)) w24)))
                (
                 Br (n7 == (0 : Int))
                  (
                   Br (s8.toList == [])
                    (
                     Br (b14)
                      (
                       Br (b19)
                        (
                         Ca Try.prog (7 : Nat) #[] w24 fun e65 w66 =>
                         ∃ b67 : Bool,
                         (
                          e65 = Ending.returned (Value.bool b67)) ∧
                         R (Ending.returned (Value.bool b67)) w66)
                        (
                         Br (s17.toList == [])
                          (
                           Br (s18.toList == [])
                            (
                             Ca Try.prog (7 : Nat) #[] w24 fun e68 w69 =>
                             ∃ b70 : Bool,
                             (
                              e68 = Ending.returned (Value.bool b70)) ∧
                             R (Ending.returned (Value.bool b70)) w69)
                            (
                             R (Ending.returned (Value.bool false)) w24))
                          (
                           R (Ending.returned (Value.bool false)) w24)))
                      (
                       Br (n12 == (0 : Int))
                        (
                         Br (s13.toList == [])
                          (
                           Br (b19)
                            (
                             Ca Try.prog (7 : Nat) #[] w24 fun e71 w72 =>
                             ∃ b73 : Bool,
                             (
                              e71 = Ending.returned (Value.bool b73)) ∧
                             R (Ending.returned (Value.bool b73)) w72)
                            (
                             Br (s17.toList == [])
                              (
                               Br (s18.toList == [])
                                (
                                 Ca Try.prog (7 : Nat) #[] w24 fun e74 w75 =>
                                 ∃ b76 : Bool,
                                 (
                                  e74 = Ending.returned (Value.bool b76)) ∧
                                 R (Ending.returned (Value.bool b76)) w75)
                                (
                                 R (Ending.returned (Value.bool false)) w24))
                              (
                               R (Ending.returned (Value.bool false)) w24)))
                          (
                           R (Ending.returned (Value.bool false)) w24))
                        (
                         R (Ending.returned (Value.bool false)) w24)))
                    (
                     R (Ending.returned (Value.bool false)) w24))
                  (
                   R (Ending.returned (Value.bool false)) w24))))))
        (
         Br (b19)
          (
           Ca Try.prog (12 : Nat) #[Value.string s17] w21 fun e77 w78 =>
           ∃ s79 : ByteArray,
           (
            e77 = Ending.returned (Value.string s79)) ∧
           (
            (↑(s79.size + s18.size) : Int) ≤ IntKind.i64.max) ∧
           Br (!(s79 ++ s18).toList == s1.toList)
            (
             R (Ending.returned (Value.bool false)) w78)
            (
             Br (b9)
              (
               Br (b14)
                (
                 Br (b19)
                  (
                   Ca Try.prog (7 : Nat) #[] w78 fun e80 w81 =>
                   ∃ b82 : Bool,
                   (
                    e80 = Ending.returned (Value.bool b82)) ∧
                   R (Ending.returned (Value.bool b82)) w81)
                  (
                   Br (s17.toList == [])
                    (
                     Br (s18.toList == [])
                      (
                       Ca Try.prog (7 : Nat) #[] w78 fun e83 w84 =>
                       ∃ b85 : Bool,
                       (
                        e83 = Ending.returned (Value.bool b85)) ∧
                       R (Ending.returned (Value.bool b85)) w84)
                      (
                       R (Ending.returned (Value.bool false)) w78))
                    (
                     R (Ending.returned (Value.bool false)) w78)))
                (
                 Br (n12 == (0 : Int))
                  (
                   Br (s13.toList == [])
                    (
                     Br (b19)
                      (
                       Ca Try.prog (7 : Nat) #[] w78 fun e86 w87 =>
                       ∃ b88 : Bool,
                       (
                        e86 = Ending.returned (Value.bool b88)) ∧
                       R (Ending.returned (Value.bool b88)) w87)
                      (
                       Br (s17.toList == [])
                        (
                         Br (s18.toList == [])
                          (
                           Ca Try.prog (7 : Nat) #[] w78 fun e89 w90 =>
                           ∃ b91 : Bool,
                           (
                            e89 = Ending.returned (Value.bool b91)) ∧
                           R (Ending.returned (Value.bool b91)) w90)
                          (
                           R (Ending.returned (Value.bool false)) w78))
                        (
                         R (Ending.returned (Value.bool false)) w78)))
                    (
                     R (Ending.returned (Value.bool false)) w78))
                  (
                   R (Ending.returned (Value.bool false)) w78)))
              (
               Br (n7 == (0 : Int))
                (
                 Br (s8.toList == [])
                  (
                   Br (b14)
                    (
                     Br (b19)
                      (
                       Ca Try.prog (7 : Nat) #[] w78 fun e92 w93 =>
                       ∃ b94 : Bool,
                       (
                        e92 = Ending.returned (Value.bool b94)) ∧
                       R (Ending.returned (Value.bool b94)) w93)
                      (
                       Br (s17.toList == [])
                        (
                         Br (s18.toList == [])
                          (
                           Ca Try.prog (7 : Nat) #[] w78 fun e95 w96 =>
                           ∃ b97 : Bool,
                           (
                            e95 = Ending.returned (Value.bool b97)) ∧
                           R (Ending.returned (Value.bool b97)) w96)
                          (
                           R (Ending.returned (Value.bool false)) w78))
                        (
                         R (Ending.returned (Value.bool false)) w78)))
                    (
                     Br (n12 == (0 : Int))
                      (
                       Br (s13.toList == [])
                        (
                         Br (b19)
                          (
                           Ca Try.prog (7 : Nat) #[] w78 fun e98 w99 =>
                           ∃ b100 : Bool,
                           (
                            e98 = Ending.returned (Value.bool b100)) ∧
                           R (Ending.returned (Value.bool b100)) w99)
                          (
                           Br (s17.toList == [])
                            (
                             Br (s18.toList == [])
                              (
                               Ca Try.prog (7 : Nat) #[] w78 fun e101 w102 =>
                               ∃ b103 : Bool,
                               (
                                e101 = Ending.returned (Value.bool b103)) ∧
                               R (Ending.returned (Value.bool b103)) w102)
                              (
                               R (Ending.returned (Value.bool false)) w78))
                            (
                             R (Ending.returned (Value.bool false)) w78)))
                        (
                         R (Ending.returned (Value.bool false)) w78))
                      (
                       R (Ending.returned (Value.bool false)) w78)))
                  (
                   R (Ending.returned (Value.bool false)) w78))
                (
                 R (Ending.returned (Value.bool false)) w78))))
          (
           Br (b9)
            (
             Br (b14)
              (
               Br (b19)
                (
                 Ca Try.prog (7 : Nat) #[] w21 fun e104 w105 =>
                 ∃ b106 : Bool,
                 (
                  e104 = Ending.returned (Value.bool b106)) ∧
                 R (Ending.returned (Value.bool b106)) w105)
                (
                 Br (s17.toList == [])
                  (
                   Br (s18.toList == [])
                    (
                     Ca Try.prog (7 : Nat) #[] w21 fun e107 w108 =>
                     ∃ b109 : Bool,
                     (
                      e107 = Ending.returned (Value.bool b109)) ∧
                     R (Ending.returned (Value.bool b109)) w108)
                    (
                     R (Ending.returned (Value.bool false)) w21))
                  (
                   R (Ending.returned (Value.bool false)) w21)))
              (
               Br (n12 == (0 : Int))
                (
                 Br (s13.toList == [])
                  (
                   Br (b19)
                    (
                     Ca Try.prog (7 : Nat) #[] w21 fun e110 w111 =>
                     ∃ b112 : Bool,
                     (
                      e110 = Ending.returned (Value.bool b112)) ∧
                     R (Ending.returned (Value.bool b112)) w111)
                    (
                     Br (s17.toList == [])
                      (
                       Br (s18.toList == [])
                        (
                         Ca Try.prog (7 : Nat) #[] w21 fun e113 w114 =>
                         ∃ b115 : Bool,
                         (
                          e113 = Ending.returned (Value.bool b115)) ∧
                         R (Ending.returned (Value.bool b115)) w114)
                        (
                         R (Ending.returned (Value.bool false)) w21))
                      (
                       R (Ending.returned (Value.bool false)) w21)))
                  (
                   R (Ending.returned (Value.bool false)) w21))
                (
                 R (Ending.returned (Value.bool false)) w21)))
            (
             Br (n7 == (0 : Int))
              (
               Br (s8.toList == [])
                (
                 Br (b14)
                  (
                   Br (b19)
                    (
                     Ca Try.prog (7 : Nat) #[] w21 fun e116 w117 =>
                     ∃ b118 : Bool,
                     (
                      e116 = Ending.returned (Value.bool b118)) ∧
                     R (Ending.returned (Value.bool b118)) w117)
                    (
                     Br (s17.toList == [])
                      (
                       Br (s18.toList == [])
                        (
                         Ca Try.prog (7 : Nat) #[] w21 fun e119 w120 =>
                         ∃ b121 : Bool,
                         (
                          e119 = Ending.returned (Value.bool b121)) ∧
                         R (Ending.returned (Value.bool b121)) w120)
                        (
                         R (Ending.returned (Value.bool false)) w21))
                      (
                       R (Ending.returned (Value.bool false)) w21)))
                  (
                   Br (n12 == (0 : Int))
                    (
                     Br (s13.toList == [])
                      (
                       Br (b19)
                        (
                         Ca Try.prog (7 : Nat) #[] w21 fun e122 w123 =>
                         ∃ b124 : Bool,
                         (
                          e122 = Ending.returned (Value.bool b124)) ∧
                         R (Ending.returned (Value.bool b124)) w123)
                        (
                         Br (s17.toList == [])
                          (
                           Br (s18.toList == [])
                            (
                             Ca Try.prog (7 : Nat) #[] w21 fun e125 w126 =>
                             ∃ b127 : Bool,
                             (
                              e125 = Ending.returned (Value.bool b127)) ∧
                             R (Ending.returned (Value.bool b127)) w126)
                            (
                             R (Ending.returned (Value.bool false)) w21))
                          (
                           R (Ending.returned (Value.bool false)) w21)))
                      (
                       R (Ending.returned (Value.bool false)) w21))
                    (
                     R (Ending.returned (Value.bool false)) w21)))
                (
                 R (Ending.returned (Value.bool false)) w21))
              (
               R (Ending.returned (Value.bool false)) w21))))))
    (
     Br (b14)
      (
       Ca Try.prog (10 : Nat) #[Value.int IntKind.i64 n12] w16 fun e128 w129 =>
       ∃ s130 : ByteArray,
       (
        e128 = Ending.returned (Value.string s130)) ∧
       (
        (↑(s130.size + s13.size) : Int) ≤ IntKind.i64.max) ∧
       Br (!(s130 ++ s13).toList == s1.toList)
        (
         R (Ending.returned (Value.bool false)) w129)
        (
         Br (decide (n12 < (-1 : Int)))
          (
           R (Ending.returned (Value.bool false)) w129)
          (
           Br (b19)
            (
             Ca Try.prog (12 : Nat) #[Value.string s17] w129 fun e131 w132 =>
             ∃ s133 : ByteArray,
             (
              e131 = Ending.returned (Value.string s133)) ∧
             (
              (↑(s133.size + s18.size) : Int) ≤ IntKind.i64.max) ∧
             Br (!(s133 ++ s18).toList == s1.toList)
              (
               R (Ending.returned (Value.bool false)) w132)
              (
               Br (b9)
                (
                 Br (b14)
                  (
                   Br (b19)
                    (
                     Ca Try.prog (7 : Nat) #[] w132 fun e134 w135 =>
                     ∃ b136 : Bool,
                     (
                      e134 = Ending.returned (Value.bool b136)) ∧
                     R (Ending.returned (Value.bool b136)) w135)
                    (
                     Br (s17.toList == [])
                      (
                       Br (s18.toList == [])
                        (
                         Ca Try.prog (7 : Nat) #[] w132 fun e137 w138 =>
                         ∃ b139 : Bool,
                         (
                          e137 = Ending.returned (Value.bool b139)) ∧
                         R (Ending.returned (Value.bool b139)) w138)
                        (
                         R (Ending.returned (Value.bool false)) w132))
                      (
                       R (Ending.returned (Value.bool false)) w132)))
                  (
                   Br (n12 == (0 : Int))
                    (
                     Br (s13.toList == [])
                      (
                       Br (b19)
                        (
                         Ca Try.prog (7 : Nat) #[] w132 fun e140 w141 =>
                         ∃ b142 : Bool,
                         (
                          e140 = Ending.returned (Value.bool b142)) ∧
                         R (Ending.returned (Value.bool b142)) w141)
                        (
                         Br (s17.toList == [])
                          (
                           Br (s18.toList == [])
                            (
                             Ca Try.prog (7 : Nat) #[] w132 fun e143 w144 =>
                             ∃ b145 : Bool,
                             (
                              e143 = Ending.returned (Value.bool b145)) ∧
                             R (Ending.returned (Value.bool b145)) w144)
                            (
                             R (Ending.returned (Value.bool false)) w132))
                          (
                           R (Ending.returned (Value.bool false)) w132)))
                      (
                       R (Ending.returned (Value.bool false)) w132))
                    (
                     R (Ending.returned (Value.bool false)) w132)))
                (
                 Br (n7 == (0 : Int))
                  (
                   Br (s8.toList == [])
                    (
                     Br (b14)
                      (
                       Br (b19)
                        (
                         Ca Try.prog (7 : Nat) #[] w132 fun e146 w147 =>
                         ∃ b148 : Bool,
                         (
                          e146 = Ending.returned (Value.bool b148)) ∧
                         R (Ending.returned (Value.bool b148)) w147)
                        (
                         Br (s17.toList == [])
                          (
                           Br (s18.toList == [])
                            (
                             Ca Try.prog (7 : Nat) #[] w132 fun e149 w150 =>
                             ∃ b151 : Bool,
                             (
                              e149 = Ending.returned (Value.bool b151)) ∧
                             R (Ending.returned (Value.bool b151)) w150)
                            (
                             R (Ending.returned (Value.bool false)) w132))
                          (
                           R (Ending.returned (Value.bool false)) w132)))
                      (
                       Br (n12 == (0 : Int))
                        (
                         Br (s13.toList == [])
                          (
                           Br (b19)
                            (
                             Ca Try.prog (7 : Nat) #[] w132 fun e152 w153 =>
                             ∃ b154 : Bool,
                             (
                              e152 = Ending.returned (Value.bool b154)) ∧
                             R (Ending.returned (Value.bool b154)) w153)
                            (
                             Br (s17.toList == [])
                              (
                               Br (s18.toList == [])
                                (
                                 Ca Try.prog (7 : Nat) #[] w132 fun e155 w156 =>
                                 ∃ b157 : Bool,
                                 (
                                  e155 = Ending.returned (Value.bool b157)) ∧
                                 R (Ending.returned (Value.bool b157)) w156)
                                (
                                 R (Ending.returned (Value.bool false)) w132))
                              (
                               R (Ending.returned (Value.bool false)) w132)))
                          (
                           R (Ending.returned (Value.bool false)) w132))
                        (
                         R (Ending.returned (Value.bool false)) w132)))
                    (
                     R (Ending.returned (Value.bool false)) w132))
                  (
                   R (Ending.returned (Value.bool false)) w132))))
            (
             Br (b9)
              (
               Br (b14)
                (
                 Br (b19)
                  (
                   Ca Try.prog (7 : Nat) #[] w129 fun e158 w159 =>
                   ∃ b160 : Bool,
                   (
                    e158 = Ending.returned (Value.bool b160)) ∧
                   R (Ending.returned (Value.bool b160)) w159)
                  (
                   Br (s17.toList == [])
                    (
                     Br (s18.toList == [])
                      (
                       Ca Try.prog (7 : Nat) #[] w129 fun e161 w162 =>
                       ∃ b163 : Bool,
                       (
                        e161 = Ending.returned (Value.bool b163)) ∧
                       R (Ending.returned (Value.bool b163)) w162)
                      (
                       R (Ending.returned (Value.bool false)) w129))
                    (
                     R (Ending.returned (Value.bool false)) w129)))
                (
                 Br (n12 == (0 : Int))
                  (
                   Br (s13.toList == [])
                    (
                     Br (b19)
                      (
                       Ca Try.prog (7 : Nat) #[] w129 fun e164 w165 =>
                       ∃ b166 : Bool,
                       (
                        e164 = Ending.returned (Value.bool b166)) ∧
                       R (Ending.returned (Value.bool b166)) w165)
                      (
                       Br (s17.toList == [])
                        (
                         Br (s18.toList == [])
                          (
                           Ca Try.prog (7 : Nat) #[] w129 fun e167 w168 =>
                           ∃ b169 : Bool,
                           (
                            e167 = Ending.returned (Value.bool b169)) ∧
                           R (Ending.returned (Value.bool b169)) w168)
                          (
                           R (Ending.returned (Value.bool false)) w129))
                        (
                         R (Ending.returned (Value.bool false)) w129)))
                    (
                     R (Ending.returned (Value.bool false)) w129))
                  (
                   R (Ending.returned (Value.bool false)) w129)))
              (
               Br (n7 == (0 : Int))
                (
                 Br (s8.toList == [])
                  (
                   Br (b14)
                    (
                     Br (b19)
                      (
                       Ca Try.prog (7 : Nat) #[] w129 fun e170 w171 =>
                       ∃ b172 : Bool,
                       (
                        e170 = Ending.returned (Value.bool b172)) ∧
                       R (Ending.returned (Value.bool b172)) w171)
                      (
                       Br (s17.toList == [])
                        (
                         Br (s18.toList == [])
                          (
                           Ca Try.prog (7 : Nat) #[] w129 fun e173 w174 =>
                           ∃ b175 : Bool,
                           (
                            e173 = Ending.returned (Value.bool b175)) ∧
                           R (Ending.returned (Value.bool b175)) w174)
                          (
                           R (Ending.returned (Value.bool false)) w129))
                        (
                         R (Ending.returned (Value.bool false)) w129)))
                    (
                     Br (n12 == (0 : Int))
                      (
                       Br (s13.toList == [])
                        (
                         Br (b19)
                          (
                           Ca Try.prog (7 : Nat) #[] w129 fun e176 w177 =>
                           ∃ b178 : Bool,
                           (
                            e176 = Ending.returned (Value.bool b178)) ∧
                           R (Ending.returned (Value.bool b178)) w177)
                          (
                           Br (s17.toList == [])
                            (
                             Br (s18.toList == [])
                              (
                               Ca Try.prog (7 : Nat) #[] w129 fun e179 w180 =>
                               ∃ b181 : Bool,
                               (
                                e179 = Ending.returned (Value.bool b181)) ∧
                               R (Ending.returned (Value.bool b181)) w180)
                              (
                               R (Ending.returned (Value.bool false)) w129))
                            (
                             R (Ending.returned (Value.bool false)) w129)))
                        (
                         R (Ending.returned (Value.bool false)) w129))
                      (
                       R (Ending.returned (Value.bool false)) w129)))
                  (
                   R (Ending.returned (Value.bool false)) w129))
                (
                 R (Ending.returned (Value.bool false)) w129))))))
      (
       Br (b19)
        (
         Ca Try.prog (12 : Nat) #[Value.string s17] w16 fun e182 w183 =>
         ∃ s184 : ByteArray,
         (
          e182 = Ending.returned (Value.string s184)) ∧
         (
          (↑(s184.size + s18.size) : Int) ≤ IntKind.i64.max) ∧
         Br (!(s184 ++ s18).toList == s1.toList)
          (
           R (Ending.returned (Value.bool false)) w183)
          (
           Br (b9)
            (
             Br (b14)
              (
               Br (b19)
                (
                 Ca Try.prog (7 : Nat) #[] w183 fun e185 w186 =>
                 ∃ b187 : Bool,
                 (
                  e185 = Ending.returned (Value.bool b187)) ∧
                 R (Ending.returned (Value.bool b187)) w186)
                (
                 Br (s17.toList == [])
                  (
                   Br (s18.toList == [])
                    (
                     Ca Try.prog (7 : Nat) #[] w183 fun e188 w189 =>
                     ∃ b190 : Bool,
                     (
                      e188 = Ending.returned (Value.bool b190)) ∧
                     R (Ending.returned (Value.bool b190)) w189)
                    (
                     R (Ending.returned (Value.bool false)) w183))
                  (
                   R (Ending.returned (Value.bool false)) w183)))
              (
               Br (n12 == (0 : Int))
                (
                 Br (s13.toList == [])
                  (
                   Br (b19)
                    (
                     Ca Try.prog (7 : Nat) #[] w183 fun e191 w192 =>
                     ∃ b193 : Bool,
                     (
                      e191 = Ending.returned (Value.bool b193)) ∧
                     R (Ending.returned (Value.bool b193)) w192)
                    (
                     Br (s17.toList == [])
                      (
                       Br (s18.toList == [])
                        (
                         Ca Try.prog (7 : Nat) #[] w183 fun e194 w195 =>
                         ∃ b196 : Bool,
                         (
                          e194 = Ending.returned (Value.bool b196)) ∧
                         R (Ending.returned (Value.bool b196)) w195)
                        (
                         R (Ending.returned (Value.bool false)) w183))
                      (
                       R (Ending.returned (Value.bool false)) w183)))
                  (
                   R (Ending.returned (Value.bool false)) w183))
                (
                 R (Ending.returned (Value.bool false)) w183)))
            (
             Br (n7 == (0 : Int))
              (
               Br (s8.toList == [])
                (
                 Br (b14)
                  (
                   Br (b19)
                    (
                     Ca Try.prog (7 : Nat) #[] w183 fun e197 w198 =>
                     ∃ b199 : Bool,
                     (
                      e197 = Ending.returned (Value.bool b199)) ∧
                     R (Ending.returned (Value.bool b199)) w198)
                    (
                     Br (s17.toList == [])
                      (
                       Br (s18.toList == [])
                        (
                         Ca Try.prog (7 : Nat) #[] w183 fun e200 w201 =>
                         ∃ b202 : Bool,
                         (
                          e200 = Ending.returned (Value.bool b202)) ∧
                         R (Ending.returned (Value.bool b202)) w201)
                        (
                         R (Ending.returned (Value.bool false)) w183))
                      (
                       R (Ending.returned (Value.bool false)) w183)))
                  (
                   Br (n12 == (0 : Int))
                    (
                     Br (s13.toList == [])
                      (
                       Br (b19)
                        (
                         Ca Try.prog (7 : Nat) #[] w183 fun e203 w204 =>
                         ∃ b205 : Bool,
                         (
                          e203 = Ending.returned (Value.bool b205)) ∧
                         R (Ending.returned (Value.bool b205)) w204)
                        (
                         Br (s17.toList == [])
                          (
                           Br (s18.toList == [])
                            (
                             Ca Try.prog (7 : Nat) #[] w183 fun e206 w207 =>
                             ∃ b208 : Bool,
                             (
                              e206 = Ending.returned (Value.bool b208)) ∧
                             R (Ending.returned (Value.bool b208)) w207)
                            (
                             R (Ending.returned (Value.bool false)) w183))
                          (
                           R (Ending.returned (Value.bool false)) w183)))
                      (
                       R (Ending.returned (Value.bool false)) w183))
                    (
                     R (Ending.returned (Value.bool false)) w183)))
                (
                 R (Ending.returned (Value.bool false)) w183))
              (
               R (Ending.returned (Value.bool false)) w183))))
        (
         Br (b9)
          (
           Br (b14)
            (
             Br (b19)
              (
               Ca Try.prog (7 : Nat) #[] w16 fun e209 w210 =>
               ∃ b211 : Bool,
               (
                e209 = Ending.returned (Value.bool b211)) ∧
               R (Ending.returned (Value.bool b211)) w210)
              (
               Br (s17.toList == [])
                (
                 Br (s18.toList == [])
                  (
                   Ca Try.prog (7 : Nat) #[] w16 fun e212 w213 =>
                   ∃ b214 : Bool,
                   (
                    e212 = Ending.returned (Value.bool b214)) ∧
                   R (Ending.returned (Value.bool b214)) w213)
                  (
                   R (Ending.returned (Value.bool false)) w16))
                (
                 R (Ending.returned (Value.bool false)) w16)))
            (
             Br (n12 == (0 : Int))
              (
               Br (s13.toList == [])
                (
                 Br (b19)
                  (
                   Ca Try.prog (7 : Nat) #[] w16 fun e215 w216 =>
                   ∃ b217 : Bool,
                   (
                    e215 = Ending.returned (Value.bool b217)) ∧
                   R (Ending.returned (Value.bool b217)) w216)
                  (
                   Br (s17.toList == [])
                    (
                     Br (s18.toList == [])
                      (
                       Ca Try.prog (7 : Nat) #[] w16 fun e218 w219 =>
                       ∃ b220 : Bool,
                       (
                        e218 = Ending.returned (Value.bool b220)) ∧
                       R (Ending.returned (Value.bool b220)) w219)
                      (
                       R (Ending.returned (Value.bool false)) w16))
                    (
                     R (Ending.returned (Value.bool false)) w16)))
                (
                 R (Ending.returned (Value.bool false)) w16))
              (
               R (Ending.returned (Value.bool false)) w16)))
          (
           Br (n7 == (0 : Int))
            (
             Br (s8.toList == [])
              (
               Br (b14)
                (
                 Br (b19)
                  (
                   Ca Try.prog (7 : Nat) #[] w16 fun e221 w222 =>
                   ∃ b223 : Bool,
                   (
                    e221 = Ending.returned (Value.bool b223)) ∧
                   R (Ending.returned (Value.bool b223)) w222)
                  (
                   Br (s17.toList == [])
                    (
                     Br (s18.toList == [])
                      (
                       Ca Try.prog (7 : Nat) #[] w16 fun e224 w225 =>
                       ∃ b226 : Bool,
                       (
                        e224 = Ending.returned (Value.bool b226)) ∧
                       R (Ending.returned (Value.bool b226)) w225)
                      (
                       R (Ending.returned (Value.bool false)) w16))
                    (
                     R (Ending.returned (Value.bool false)) w16)))
                (
                 Br (n12 == (0 : Int))
                  (
                   Br (s13.toList == [])
                    (
                     Br (b19)
                      (
                       Ca Try.prog (7 : Nat) #[] w16 fun e227 w228 =>
                       ∃ b229 : Bool,
                       (
                        e227 = Ending.returned (Value.bool b229)) ∧
                       R (Ending.returned (Value.bool b229)) w228)
                      (
                       Br (s17.toList == [])
                        (
                         Br (s18.toList == [])
                          (
                           Ca Try.prog (7 : Nat) #[] w16 fun e230 w231 =>
                           ∃ b232 : Bool,
                           (
                            e230 = Ending.returned (Value.bool b232)) ∧
                           R (Ending.returned (Value.bool b232)) w231)
                          (
                           R (Ending.returned (Value.bool false)) w16))
                        (
                         R (Ending.returned (Value.bool false)) w16)))
                    (
                     R (Ending.returned (Value.bool false)) w16))
                  (
                   R (Ending.returned (Value.bool false)) w16)))
              (
               R (Ending.returned (Value.bool false)) w16))
            (
             R (Ending.returned (Value.bool false)) w16))))))
theorem lawForm_ok (s1 : ByteArray) (w : World) (R : Ending → World → Prop) (h : lawForm s1 w R) : Ca Try.prog 6 #[Value.string s1] w R :=
  Ca.of_fvc (c := bodyOf Try.f6) (by kernel_rfl) Try.func6 (by kernel_rfl) [] (Eq.mp (by kernel_rfl) h)

end Go.Proofs.Ytkcljeonjhcjiaa
