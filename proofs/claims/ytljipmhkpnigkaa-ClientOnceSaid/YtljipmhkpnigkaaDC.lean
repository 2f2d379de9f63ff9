/- The verification conditions of this seat's functions, printed by a program; the kernel holds each against the loaded code. -/
import Derived.Test.YtljipmhkpnigkaaProg
import Derived.KernelRfl
import Derived.Test.YtljipmhkpnigkaaV5
set_option maxRecDepth 100000
namespace Go.Proofs.Ytljipmhkpnigkaa
open Go Go.Vc Go.Proofs
def sindexf (p1 : Option Addr) (k2 : Nat) (_k3 : Nat) (b4 : Nat) (w : World) (R : Ending → World → Prop) : Prop :=
 ∃ I5 : Nat → List Value → World → Prop,
 (
  ∃ k6 : Nat,
  I5 k6 [Value.int IntKind.i64 (0 : Int), Value.int IntKind.i64 (0 : Int)] w) ∧
 ∀ n7 : Int,
 ∀ n8 : Int,
 ∀ k9 : Nat,
 ∀ w10 : World,
 (
  I5 k9 [Value.int IntKind.i64 n7, Value.int IntKind.i64 n8] w10) →
 Br (decide (n8 < (↑k2 : Int)))
  (
   NilOk p1 fun a11 =>
   (
    (
     (0 : Int) ≤ n8) ∧
    n8 < (↑k2 : Int)) ∧
   ∃ n12 : Int,
   ∃ n13 : Int,
   (
    Row w10 (a11.add (n8.toNat * (2 : Nat))) (0 : Nat) [Value.int IntKind.i64 n12, Value.int IntKind.i64 n13]) ∧
   Ca Try.prog (87 : Nat) #[Value.agg #[Value.int IntKind.i64 n12, Value.int IntKind.i64 n13], Value.pointer (some { block := b4, off := (0 : Nat) })] w10 fun e14 w15 =>
   ∃ b16 : Bool,
   (
    e14 = Ending.returned (Value.bool b16)) ∧
   Br (b16)
    (
     R (Ending.returned (Value.int IntKind.i64 n8)) w15)
    (
     LetI (IntKind.i64.wrap (n8 + (1 : Int))) fun n17 =>
     ∃ k18 : Nat,
     (
      k18 < k9) ∧
     I5 k18 [Value.int IntKind.i64 n7, Value.int IntKind.i64 n17] w15))
  (
   R (Ending.returned (Value.int IntKind.i64 (-1 : Int))) w10)
theorem sindexf_ok (p1 : Option Addr) (k2 : Nat) (k3 : Nat) (b4 : Nat) (w : World) (R : Ending → World → Prop) (h : sindexf p1 k2 k3 b4 w R) : Ca Try.prog 86 #[Value.slice p1 k2 k3, Value.func (Fn.func (87 : Nat)) #[] #[Value.pointer (some { block := b4, off := (0 : Nat) })]] w R :=
  Ca.of_fvc (c := bodyOf Try.f86) (by kernel_rfl) Try.func86 (by kernel_rfl) [] (Eq.mp (by kernel_rfl) h)

def sdelete (p1 : Option Addr) (k2 : Nat) (k3 : Nat) (n4 : Int) (n5 : Int) (w : World) (R : Ending → World → Prop) : Prop :=
 (
  (
   (0 : Int) ≤ n4) ∧
  (
   n4 ≤ n5) ∧
  (
   n5 ≤ (↑k2 : Int)) ∧
  (
   (↑k2 : Int) ≤ (↑k3 : Int)) ∧
  (
   (
    true = true) →
   true = true)) ∧
 Br (n4 == n5)
  (
   R (Ending.returned (Value.slice p1 k2 k3)) w)
  (
   (
    (
     (0 : Int) ≤ (0 : Int)) ∧
    (
     (0 : Int) ≤ n4) ∧
    (
     n4 ≤ (↑k3 : Int)) ∧
    (
     (↑k3 : Int) ≤ (↑k3 : Int)) ∧
    (
     (
      false = true) →
     true = true)) ∧
   (
    (
     (0 : Int) ≤ n5) ∧
    (
     n5 ≤ (↑k2 : Int)) ∧
    (
     (↑k2 : Int) ≤ (↑k3 : Int)) ∧
    (
     (↑k3 : Int) ≤ (↑k3 : Int)) ∧
    (
     (
      false = true) →
     false = true)) ∧
   RunsV Try.prog (Builtin.append_ #[(30 : Nat), (30 : Nat)] (30 : Nat) #[Value.slice (if (↑k3 : Int).toNat = Int.toNat (0 : Int) then p1 else Option.map (fun x => x.add (Int.toNat (0 : Int) * sizeT Try.prog (64 : Nat))) p1) (n4.toNat - (0 : Nat)) ((↑k3 : Int).toNat - (0 : Nat)), Value.slice (if (↑k3 : Int).toNat = n5.toNat then p1 else Option.map (fun x => x.add (n5.toNat * sizeT Try.prog (64 : Nat))) p1) ((↑k2 : Int).toNat - n5.toNat) ((↑k3 : Int).toNat - n5.toNat)]) w fun v6 w7 =>
   ∃ p8 : Option Addr,
   ∃ k9 : Nat,
   ∃ k10 : Nat,
   (
    v6 = Value.slice p8 k9 k10) ∧
   (
    (
     (0 : Int) ≤ (↑k9 : Int)) ∧
    (
     (↑k9 : Int) ≤ (↑k2 : Int)) ∧
    (
     (↑k2 : Int) ≤ (↑k10 : Int)) ∧
    (
     (↑k10 : Int) ≤ (↑k10 : Int)) ∧
    (
     (
      false = true) →
     true = true)) ∧
   RunsV Try.prog (Builtin.clear_ #[(30 : Nat)] (0 : Nat) #[Value.slice (if (↑k10 : Int).toNat = (↑k9 : Int).toNat then p8 else Option.map (fun x => x.add ((↑k9 : Int).toNat * sizeT Try.prog (64 : Nat))) p8) ((↑k2 : Int).toNat - (↑k9 : Int).toNat) ((↑k10 : Int).toNat - (↑k9 : Int).toNat)]) w7 fun v11 w12 =>
   (
    v11 = Value.tuple #[]) ∧
   R (Ending.returned (Value.slice p8 k9 k10)) w12)
theorem sdelete_ok (p1 : Option Addr) (k2 : Nat) (k3 : Nat) (n4 : Int) (n5 : Int) (w : World) (R : Ending → World → Prop) (h : sdelete p1 k2 k3 n4 n5 w R) : Ca Try.prog 97 #[Value.slice p1 k2 k3, Value.int IntKind.i64 n4, Value.int IntKind.i64 n5] w R :=
  Ca.of_fvc (c := bodyOf Try.f97) (by kernel_rfl) Try.func97 (by kernel_rfl) [] (Eq.mp (by kernel_rfl) h)

def sclone (p1 : Option Addr) (k2 : Nat) (k3 : Nat) (w : World) (R : Ending → World → Prop) : Prop :=
 Br (p1.isNone)
  (
   R (Ending.returned (Value.slice none (0 : Nat) (0 : Nat))) w)
  (
   LetA (Obj.cells #[] (64 : Nat)) w fun b4 w5 =>
   RunsV Try.prog (Builtin.append_ #[(30 : Nat), (30 : Nat)] (30 : Nat) #[Value.slice (some { block := b4, off := (0 : Nat) }) (0 : Nat) (0 : Nat), Value.slice p1 k2 k3]) w5 fun v6 w7 =>
   ∃ p8 : Option Addr,
   ∃ k9 : Nat,
   ∃ k10 : Nat,
   (
    v6 = Value.slice p8 k9 k10) ∧
   R (Ending.returned (Value.slice p8 k9 k10)) w7)
theorem sclone_ok (p1 : Option Addr) (k2 : Nat) (k3 : Nat) (w : World) (R : Ending → World → Prop) (h : sclone p1 k2 k3 w R) : Ca Try.prog 98 #[Value.slice p1 k2 k3] w R :=
  Ca.of_fvc (c := bodyOf Try.f98) (by kernel_rfl) Try.func98 (by kernel_rfl) [] (Eq.mp (by kernel_rfl) h)

def cat1 (n1 : Int) (n2 : Int) (b3 : Nat) (w : World) (R : Ending → World → Prop) : Prop :=
 LetA (Obj.cells #[Value.int IntKind.i64 n1, Value.int IntKind.i64 n2] (64 : Nat)) w fun b4 w5 =>
 ∃ n6 : Int,
 (
  w5.cell? { block := b4, off := (0 : Nat) } = some (Value.int IntKind.i64 n6)) ∧
 ∃ n7 : Int,
 (
  w5.cell? { block := b3, off := (0 : Nat) } = some (Value.int IntKind.i64 n7)) ∧
 R (Ending.returned (Value.bool (n6 == n7))) w5
theorem cat1_ok (n1 : Int) (n2 : Int) (b3 : Nat) (w : World) (R : Ending → World → Prop) (h : cat1 n1 n2 b3 w R) : Ca Try.prog 87 #[Value.agg #[Value.int IntKind.i64 n1, Value.int IntKind.i64 n2], Value.pointer (some { block := b3, off := (0 : Nat) })] w R :=
  Ca.of_fvc (c := bodyOf Try.f87) (by kernel_rfl) Try.func87 (by kernel_rfl) [] (Eq.mp (by kernel_rfl) h)

def cmember (n1 : Int) (p2 : Option Addr) (k3 : Nat) (k4 : Nat) (n5 : Int) (n6 : Int) (w : World) (R : Ending → World → Prop) : Prop :=
 LetA (Obj.cells #[Value.int IntKind.i64 n1, Value.slice p2 k3 k4, Value.int IntKind.i64 n5] (32 : Nat)) w fun b7 w8 =>
 Br (decide (n6 < (0 : Int)))
  (
   R (Ending.returned (Value.int IntKind.i64 (-1 : Int))) w8)
  (
   ∃ p9 : Option Addr,
   ∃ k10 : Nat,
   ∃ k11 : Nat,
   (
    w8.cell? { block := b7, off := (1 : Nat) } = some (Value.slice p9 k10 k11)) ∧
   Br (decide (n6 ≥ (↑k10 : Int)))
    (
     R (Ending.returned (Value.int IntKind.i64 (-1 : Int))) w8)
    (
     ∃ n12 : Int,
     ∃ p13 : Option Addr,
     ∃ k14 : Nat,
     ∃ k15 : Nat,
     ∃ n16 : Int,
     (
      Row w8 { block := b7, off := (0 : Nat) } (0 : Nat) [Value.int IntKind.i64 n12, Value.slice p13 k14 k15, Value.int IntKind.i64 n16]) ∧
     Ca Try.prog (21 : Nat) #[Value.agg #[Value.int IntKind.i64 n12, Value.slice p13 k14 k15, Value.int IntKind.i64 n16]] w8 fun e17 w18 =>
     ∃ n19 : Int,
     (
      e17 = Ending.returned (Value.int IntKind.i64 n19)) ∧
     Br (n19 != (0 : Int))
      (
       R (Ending.returned (Value.int IntKind.i64 (-1 : Int))) w18)
      (
       ∃ p20 : Option Addr,
       ∃ k21 : Nat,
       ∃ k22 : Nat,
       (
        w18.cell? { block := b7, off := (1 : Nat) } = some (Value.slice p20 k21 k22)) ∧
       NilOk p20 fun a23 =>
       (
        (
         (0 : Int) ≤ n6) ∧
        n6 < (↑k21 : Int)) ∧
       ∃ n24 : Int,
       (
        w18.cell? (a23.add (n6.toNat * (2 : Nat))) = some (Value.int IntKind.i64 n24)) ∧
       R (Ending.returned (Value.int IntKind.i64 n24)) w18)))
theorem cmember_ok (n1 : Int) (p2 : Option Addr) (k3 : Nat) (k4 : Nat) (n5 : Int) (n6 : Int) (w : World) (R : Ending → World → Prop) (h : cmember n1 p2 k3 k4 n5 n6 w R) : Ca Try.prog 54 #[Value.agg #[Value.int IntKind.i64 n1, Value.slice p2 k3 k4, Value.int IntKind.i64 n5], Value.int IntKind.i64 n6] w R :=
  Ca.of_fvc (c := bodyOf Try.f54) (by kernel_rfl) Try.func54 (by kernel_rfl) [] (Eq.mp (by kernel_rfl) h)

def chead (n1 : Int) (p2 : Option Addr) (k3 : Nat) (k4 : Nat) (n5 : Int) (w : World) (R : Ending → World → Prop) : Prop :=
 LetA (Obj.cells #[Value.int IntKind.i64 n1, Value.slice p2 k3 k4, Value.int IntKind.i64 n5] (32 : Nat)) w fun b6 w7 =>
 ∃ n8 : Int,
 ∃ p9 : Option Addr,
 ∃ k10 : Nat,
 ∃ k11 : Nat,
 ∃ n12 : Int,
 (
  Row w7 { block := b6, off := (0 : Nat) } (0 : Nat) [Value.int IntKind.i64 n8, Value.slice p9 k10 k11, Value.int IntKind.i64 n12]) ∧
 Ca Try.prog (54 : Nat) #[Value.agg #[Value.int IntKind.i64 n8, Value.slice p9 k10 k11, Value.int IntKind.i64 n12], Value.int IntKind.i64 (0 : Int)] w7 fun e13 w14 =>
 ∃ n15 : Int,
 (
  e13 = Ending.returned (Value.int IntKind.i64 n15)) ∧
 R (Ending.returned (Value.int IntKind.i64 n15)) w14
theorem chead_ok (n1 : Int) (p2 : Option Addr) (k3 : Nat) (k4 : Nat) (n5 : Int) (w : World) (R : Ending → World → Prop) (h : chead n1 p2 k3 k4 n5 w R) : Ca Try.prog 22 #[Value.agg #[Value.int IntKind.i64 n1, Value.slice p2 k3 k4, Value.int IntKind.i64 n5]] w R :=
  Ca.of_fvc (c := bodyOf Try.f22) (by kernel_rfl) Try.func22 (by kernel_rfl) [] (Eq.mp (by kernel_rfl) h)

def ctail (n1 : Int) (p2 : Option Addr) (k3 : Nat) (k4 : Nat) (n5 : Int) (w : World) (R : Ending → World → Prop) : Prop :=
 LetA (Obj.cells #[Value.int IntKind.i64 n1, Value.slice p2 k3 k4, Value.int IntKind.i64 n5] (32 : Nat)) w fun b6 w7 =>
 ∃ n8 : Int,
 ∃ p9 : Option Addr,
 ∃ k10 : Nat,
 ∃ k11 : Nat,
 ∃ n12 : Int,
 (
  Row w7 { block := b6, off := (0 : Nat) } (0 : Nat) [Value.int IntKind.i64 n8, Value.slice p9 k10 k11, Value.int IntKind.i64 n12]) ∧
 ∃ p13 : Option Addr,
 ∃ k14 : Nat,
 ∃ k15 : Nat,
 (
  w7.cell? { block := b6, off := (1 : Nat) } = some (Value.slice p13 k14 k15)) ∧
 LetI (IntKind.i64.wrap ((↑k14 : Int) - (1 : Int))) fun n16 =>
 Ca Try.prog (54 : Nat) #[Value.agg #[Value.int IntKind.i64 n8, Value.slice p9 k10 k11, Value.int IntKind.i64 n12], Value.int IntKind.i64 n16] w7 fun e17 w18 =>
 ∃ n19 : Int,
 (
  e17 = Ending.returned (Value.int IntKind.i64 n19)) ∧
 R (Ending.returned (Value.int IntKind.i64 n19)) w18
theorem ctail_ok (n1 : Int) (p2 : Option Addr) (k3 : Nat) (k4 : Nat) (n5 : Int) (w : World) (R : Ending → World → Prop) (h : ctail n1 p2 k3 k4 n5 w R) : Ca Try.prog 23 #[Value.agg #[Value.int IntKind.i64 n1, Value.slice p2 k3 k4, Value.int IntKind.i64 n5]] w R :=
  Ca.of_fvc (c := bodyOf Try.f23) (by kernel_rfl) Try.func23 (by kernel_rfl) [] (Eq.mp (by kernel_rfl) h)

def csince (n1 : Int) (p2 : Option Addr) (k3 : Nat) (k4 : Nat) (n5 : Int) (n6 : Int) (w : World) (R : Ending → World → Prop) : Prop :=
 LetA (Obj.cells #[Value.int IntKind.i64 n1, Value.slice p2 k3 k4, Value.int IntKind.i64 n5] (32 : Nat)) w fun b7 w8 =>
 ∃ n9 : Int,
 ∃ p10 : Option Addr,
 ∃ k11 : Nat,
 ∃ k12 : Nat,
 ∃ n13 : Int,
 (
  Row w8 { block := b7, off := (0 : Nat) } (0 : Nat) [Value.int IntKind.i64 n9, Value.slice p10 k11 k12, Value.int IntKind.i64 n13]) ∧
 Ca Try.prog (53 : Nat) #[Value.agg #[Value.int IntKind.i64 n9, Value.slice p10 k11 k12, Value.int IntKind.i64 n13], Value.int IntKind.i64 n6] w8 fun e14 w15 =>
 ∃ n16 : Int,
 (
  e14 = Ending.returned (Value.int IntKind.i64 n16)) ∧
 Br (decide (n16 < (0 : Int)))
  (
   R (Ending.returned (Value.tuple #[Value.int IntKind.i64 (0 : Int), Value.bool false])) w15)
  (
   ∃ n17 : Int,
   ∃ p18 : Option Addr,
   ∃ k19 : Nat,
   ∃ k20 : Nat,
   ∃ n21 : Int,
   (
    Row w15 { block := b7, off := (0 : Nat) } (0 : Nat) [Value.int IntKind.i64 n17, Value.slice p18 k19 k20, Value.int IntKind.i64 n21]) ∧
   Ca Try.prog (21 : Nat) #[Value.agg #[Value.int IntKind.i64 n17, Value.slice p18 k19 k20, Value.int IntKind.i64 n21]] w15 fun e22 w23 =>
   ∃ n24 : Int,
   (
    e22 = Ending.returned (Value.int IntKind.i64 n24)) ∧
   Br (n24 != (0 : Int))
    (
     R (Ending.returned (Value.tuple #[Value.int IntKind.i64 (0 : Int), Value.bool false])) w23)
    (
     ∃ p25 : Option Addr,
     ∃ k26 : Nat,
     ∃ k27 : Nat,
     (
      w23.cell? { block := b7, off := (1 : Nat) } = some (Value.slice p25 k26 k27)) ∧
     NilOk p25 fun a28 =>
     (
      (
       (0 : Int) ≤ n16) ∧
      n16 < (↑k26 : Int)) ∧
     ∃ n29 : Int,
     (
      w23.cell? ((a28.add (n16.toNat * (2 : Nat))).add (1 : Nat)) = some (Value.int IntKind.i64 n29)) ∧
     R (Ending.returned (Value.tuple #[Value.int IntKind.i64 n29, Value.bool true])) w23))
theorem csince_ok (n1 : Int) (p2 : Option Addr) (k3 : Nat) (k4 : Nat) (n5 : Int) (n6 : Int) (w : World) (R : Ending → World → Prop) (h : csince n1 p2 k3 k4 n5 n6 w R) : Ca Try.prog 32 #[Value.agg #[Value.int IntKind.i64 n1, Value.slice p2 k3 k4, Value.int IntKind.i64 n5], Value.int IntKind.i64 n6] w R :=
  Ca.of_fvc (c := bodyOf Try.f32) (by kernel_rfl) Try.func32 (by kernel_rfl) [] (Eq.mp (by kernel_rfl) h)

def clater (n1 : Int) (p2 : Option Addr) (k3 : Nat) (k4 : Nat) (n5 : Int) (w : World) (R : Ending → World → Prop) : Prop :=
 LetA (Obj.cells #[Value.int IntKind.i64 n1, Value.slice p2 k3 k4, Value.int IntKind.i64 n5] (32 : Nat)) w fun b6 w7 =>
 LetA (Obj.cells #[Value.int IntKind.i64 (0 : Int), Value.slice none (0 : Nat) (0 : Nat), Value.int IntKind.i64 (0 : Int)] (32 : Nat)) w7 fun b8 w9 =>
 ∃ n10 : Int,
 (
  w9.cell? { block := b6, off := (0 : Nat) } = some (Value.int IntKind.i64 n10)) ∧
 LetI (IntKind.i64.wrap (n10 + (1 : Int))) fun n11 =>
 ∃ p12 : Option Addr,
 ∃ k13 : Nat,
 ∃ k14 : Nat,
 (
  w9.cell? { block := b6, off := (1 : Nat) } = some (Value.slice p12 k13 k14)) ∧
 ∃ n15 : Int,
 (
  w9.cell? { block := b6, off := (2 : Nat) } = some (Value.int IntKind.i64 n15)) ∧
 Ca Try.prog (98 : Nat) #[Value.slice p12 k13 k14] w9 fun e16 w17 =>
 ∃ p18 : Option Addr,
 ∃ k19 : Nat,
 ∃ k20 : Nat,
 (
  e16 = Ending.returned (Value.slice p18 k19 k20)) ∧
 (
  w17.cell? { block := b6, off := (2 : Nat) } = some (Value.int IntKind.i64 n15)) ∧
 (
  w17.cell? { block := b6, off := (0 : Nat) } = some (Value.int IntKind.i64 n10)) ∧
 (
  WrRow w17 { block := b8, off := (0 : Nat) } (0 : Nat) [Value.int IntKind.i64 n11, Value.slice p18 k19 k20, Value.int IntKind.i64 n15]) ∧
 LetW (setRow w17 { block := b8, off := (0 : Nat) } (0 : Nat) [Value.int IntKind.i64 n11, Value.slice p18 k19 k20, Value.int IntKind.i64 n15]) fun w21 =>
 ∃ n22 : Int,
 ∃ p23 : Option Addr,
 ∃ k24 : Nat,
 ∃ k25 : Nat,
 ∃ n26 : Int,
 (
  Row w21 { block := b8, off := (0 : Nat) } (0 : Nat) [Value.int IntKind.i64 n22, Value.slice p23 k24 k25, Value.int IntKind.i64 n26]) ∧
 R (Ending.returned (Value.agg #[Value.int IntKind.i64 n22, Value.slice p23 k24 k25, Value.int IntKind.i64 n26])) w21
theorem clater_ok (n1 : Int) (p2 : Option Addr) (k3 : Nat) (k4 : Nat) (n5 : Int) (w : World) (R : Ending → World → Prop) (h : clater n1 p2 k3 k4 n5 w R) : Ca Try.prog 89 #[Value.agg #[Value.int IntKind.i64 n1, Value.slice p2 k3 k4, Value.int IntKind.i64 n5]] w R :=
  Ca.of_fvc (c := bodyOf Try.f89) (by kernel_rfl) Try.func89 (by kernel_rfl) [] (Eq.mp (by kernel_rfl) h)

def cwith (n1 : Int) (p2 : Option Addr) (k3 : Nat) (k4 : Nat) (n5 : Int) (n6 : Int) (w : World) (R : Ending → World → Prop) : Prop :=
 LetA (Obj.cells #[Value.int IntKind.i64 n1, Value.slice p2 k3 k4, Value.int IntKind.i64 n5] (32 : Nat)) w fun b7 w8 =>
 LetA (Obj.cells #[Value.int IntKind.i64 (0 : Int), Value.slice none (0 : Nat) (0 : Nat), Value.int IntKind.i64 (0 : Int)] (32 : Nat)) w8 fun b9 w10 =>
 ∃ n11 : Int,
 ∃ p12 : Option Addr,
 ∃ k13 : Nat,
 ∃ k14 : Nat,
 ∃ n15 : Int,
 (
  Row w10 { block := b7, off := (0 : Nat) } (0 : Nat) [Value.int IntKind.i64 n11, Value.slice p12 k13 k14, Value.int IntKind.i64 n15]) ∧
 Ca Try.prog (21 : Nat) #[Value.agg #[Value.int IntKind.i64 n11, Value.slice p12 k13 k14, Value.int IntKind.i64 n15]] w10 fun e16 w17 =>
 ∃ n18 : Int,
 (
  e16 = Ending.returned (Value.int IntKind.i64 n18)) ∧
 Br (n18 != (0 : Int))
  (
   Br (n18 != (0 : Int))
    (
     (
      WrRow w17 { block := b9, off := (0 : Nat) } (0 : Nat) [Value.int IntKind.i64 (0 : Int), Value.slice none (0 : Nat) (0 : Nat), Value.int IntKind.i64 (0 : Int)]) ∧
     LetW (setRow w17 { block := b9, off := (0 : Nat) } (0 : Nat) [Value.int IntKind.i64 (0 : Int), Value.slice none (0 : Nat) (0 : Nat), Value.int IntKind.i64 (0 : Int)]) fun w19 =>
     ∃ n20 : Int,
     ∃ p21 : Option Addr,
     ∃ k22 : Nat,
     ∃ k23 : Nat,
     ∃ n24 : Int,
     (
      Row w19 { block := b9, off := (0 : Nat) } (0 : Nat) [Value.int IntKind.i64 n20, Value.slice p21 k22 k23, Value.int IntKind.i64 n24]) ∧
     R (Ending.returned (Value.tuple #[Value.agg #[Value.int IntKind.i64 n20, Value.slice p21 k22 k23, Value.int IntKind.i64 n24], Value.int IntKind.i64 (2 : Int)])) w19)
    (
     ∃ n25 : Int,
     ∃ p26 : Option Addr,
     ∃ k27 : Nat,
     ∃ k28 : Nat,
     ∃ n29 : Int,
     (
      Row w17 { block := b7, off := (0 : Nat) } (0 : Nat) [Value.int IntKind.i64 n25, Value.slice p26 k27 k28, Value.int IntKind.i64 n29]) ∧
     Ca Try.prog (53 : Nat) #[Value.agg #[Value.int IntKind.i64 n25, Value.slice p26 k27 k28, Value.int IntKind.i64 n29], Value.int IntKind.i64 n6] w17 fun e30 w31 =>
     ∃ n32 : Int,
     (
      e30 = Ending.returned (Value.int IntKind.i64 n32)) ∧
     Br (decide (n32 ≥ (0 : Int)))
      (
       (
        WrRow w31 { block := b9, off := (0 : Nat) } (0 : Nat) [Value.int IntKind.i64 (0 : Int), Value.slice none (0 : Nat) (0 : Nat), Value.int IntKind.i64 (0 : Int)]) ∧
       LetW (setRow w31 { block := b9, off := (0 : Nat) } (0 : Nat) [Value.int IntKind.i64 (0 : Int), Value.slice none (0 : Nat) (0 : Nat), Value.int IntKind.i64 (0 : Int)]) fun w33 =>
       ∃ n34 : Int,
       ∃ p35 : Option Addr,
       ∃ k36 : Nat,
       ∃ k37 : Nat,
       ∃ n38 : Int,
       (
        Row w33 { block := b9, off := (0 : Nat) } (0 : Nat) [Value.int IntKind.i64 n34, Value.slice p35 k36 k37, Value.int IntKind.i64 n38]) ∧
       R (Ending.returned (Value.tuple #[Value.agg #[Value.int IntKind.i64 n34, Value.slice p35 k36 k37, Value.int IntKind.i64 n38], Value.int IntKind.i64 (62 : Int)])) w33)
      (
       ∃ n39 : Int,
       ∃ p40 : Option Addr,
       ∃ k41 : Nat,
       ∃ k42 : Nat,
       ∃ n43 : Int,
       (
        Row w31 { block := b7, off := (0 : Nat) } (0 : Nat) [Value.int IntKind.i64 n39, Value.slice p40 k41 k42, Value.int IntKind.i64 n43]) ∧
       Ca Try.prog (89 : Nat) #[Value.agg #[Value.int IntKind.i64 n39, Value.slice p40 k41 k42, Value.int IntKind.i64 n43]] w31 fun e44 w45 =>
       ∃ n46 : Int,
       ∃ p47 : Option Addr,
       ∃ k48 : Nat,
       ∃ k49 : Nat,
       ∃ n50 : Int,
       (
        e44 = Ending.returned (Value.agg #[Value.int IntKind.i64 n46, Value.slice p47 k48 k49, Value.int IntKind.i64 n50])) ∧
       LetA (Obj.cells #[Value.int IntKind.i64 (0 : Int), Value.slice none (0 : Nat) (0 : Nat), Value.int IntKind.i64 (0 : Int)] (32 : Nat)) w45 fun b51 w52 =>
       (
        WrRow w52 { block := b51, off := (0 : Nat) } (0 : Nat) [Value.int IntKind.i64 n46, Value.slice p47 k48 k49, Value.int IntKind.i64 n50]) ∧
       LetW (setRow w52 { block := b51, off := (0 : Nat) } (0 : Nat) [Value.int IntKind.i64 n46, Value.slice p47 k48 k49, Value.int IntKind.i64 n50]) fun w53 =>
       ∃ p54 : Option Addr,
       ∃ k55 : Nat,
       ∃ k56 : Nat,
       (
        w53.cell? { block := b51, off := (1 : Nat) } = some (Value.slice p54 k55 k56)) ∧
       ∃ n57 : Int,
       (
        w53.cell? { block := b51, off := (0 : Nat) } = some (Value.int IntKind.i64 n57)) ∧
       LetA (Obj.cells #[Value.int IntKind.i64 n6, Value.int IntKind.i64 n57] (64 : Nat)) w53 fun b58 w59 =>
       RunsV Try.prog (Builtin.append_ #[(30 : Nat), (30 : Nat)] (30 : Nat) #[Value.slice p54 k55 k56, Value.slice (some { block := b58, off := (0 : Nat) }) (1 : Nat) (1 : Nat)]) w59 fun v60 w61 =>
       ∃ p62 : Option Addr,
       ∃ k63 : Nat,
       ∃ k64 : Nat,
       (
        v60 = Value.slice p62 k63 k64) ∧
       (
        Wr w61 { block := b51, off := (1 : Nat) }) ∧
       LetW (w61.setCell { block := b51, off := (1 : Nat) } (Value.slice p62 k63 k64)) fun w65 =>
       ∃ n66 : Int,
       ∃ p67 : Option Addr,
       ∃ k68 : Nat,
       ∃ k69 : Nat,
       ∃ n70 : Int,
       (
        Row w65 { block := b51, off := (0 : Nat) } (0 : Nat) [Value.int IntKind.i64 n66, Value.slice p67 k68 k69, Value.int IntKind.i64 n70]) ∧
       (
        WrRow w65 { block := b9, off := (0 : Nat) } (0 : Nat) [Value.int IntKind.i64 n66, Value.slice p67 k68 k69, Value.int IntKind.i64 n70]) ∧
       LetW (setRow w65 { block := b9, off := (0 : Nat) } (0 : Nat) [Value.int IntKind.i64 n66, Value.slice p67 k68 k69, Value.int IntKind.i64 n70]) fun w71 =>
       ∃ n72 : Int,
       ∃ p73 : Option Addr,
       ∃ k74 : Nat,
       ∃ k75 : Nat,
       ∃ n76 : Int,
       (
        Row w71 { block := b9, off := (0 : Nat) } (0 : Nat) [Value.int IntKind.i64 n72, Value.slice p73 k74 k75, Value.int IntKind.i64 n76]) ∧
       R (Ending.returned (Value.tuple #[Value.agg #[Value.int IntKind.i64 n72, Value.slice p73 k74 k75, Value.int IntKind.i64 n76], Value.int IntKind.i64 (0 : Int)])) w71)))
  (
   ∃ n77 : Int,
   (
    w17.cell? { block := b7, off := (0 : Nat) } = some (Value.int IntKind.i64 n77)) ∧
   Br (n77 == (1099511627776 : Int))
    (
     Br (n77 == (1099511627776 : Int))
      (
       (
        WrRow w17 { block := b9, off := (0 : Nat) } (0 : Nat) [Value.int IntKind.i64 (0 : Int), Value.slice none (0 : Nat) (0 : Nat), Value.int IntKind.i64 (0 : Int)]) ∧
       LetW (setRow w17 { block := b9, off := (0 : Nat) } (0 : Nat) [Value.int IntKind.i64 (0 : Int), Value.slice none (0 : Nat) (0 : Nat), Value.int IntKind.i64 (0 : Int)]) fun w78 =>
       ∃ n79 : Int,
       ∃ p80 : Option Addr,
       ∃ k81 : Nat,
       ∃ k82 : Nat,
       ∃ n83 : Int,
       (
        Row w78 { block := b9, off := (0 : Nat) } (0 : Nat) [Value.int IntKind.i64 n79, Value.slice p80 k81 k82, Value.int IntKind.i64 n83]) ∧
       R (Ending.returned (Value.tuple #[Value.agg #[Value.int IntKind.i64 n79, Value.slice p80 k81 k82, Value.int IntKind.i64 n83], Value.int IntKind.i64 (2 : Int)])) w78)
      (
       ∃ n84 : Int,
       ∃ p85 : Option Addr,
       ∃ k86 : Nat,
       ∃ k87 : Nat,
       ∃ n88 : Int,
       (
        Row w17 { block := b7, off := (0 : Nat) } (0 : Nat) [Value.int IntKind.i64 n84, Value.slice p85 k86 k87, Value.int IntKind.i64 n88]) ∧
       Ca Try.prog (53 : Nat) #[Value.agg #[Value.int IntKind.i64 n84, Value.slice p85 k86 k87, Value.int IntKind.i64 n88], Value.int IntKind.i64 n6] w17 fun e89 w90 =>
       ∃ n91 : Int,
       (
        e89 = Ending.returned (Value.int IntKind.i64 n91)) ∧
       Br (decide (n91 ≥ (0 : Int)))
        (
         (
          WrRow w90 { block := b9, off := (0 : Nat) } (0 : Nat) [Value.int IntKind.i64 (0 : Int), Value.slice none (0 : Nat) (0 : Nat), Value.int IntKind.i64 (0 : Int)]) ∧
         LetW (setRow w90 { block := b9, off := (0 : Nat) } (0 : Nat) [Value.int IntKind.i64 (0 : Int), Value.slice none (0 : Nat) (0 : Nat), Value.int IntKind.i64 (0 : Int)]) fun w92 =>
         ∃ n93 : Int,
         ∃ p94 : Option Addr,
         ∃ k95 : Nat,
         ∃ k96 : Nat,
         ∃ n97 : Int,
         (
          Row w92 { block := b9, off := (0 : Nat) } (0 : Nat) [Value.int IntKind.i64 n93, Value.slice p94 k95 k96, Value.int IntKind.i64 n97]) ∧
         R (Ending.returned (Value.tuple #[Value.agg #[Value.int IntKind.i64 n93, Value.slice p94 k95 k96, Value.int IntKind.i64 n97], Value.int IntKind.i64 (62 : Int)])) w92)
        (
         ∃ n98 : Int,
         ∃ p99 : Option Addr,
         ∃ k100 : Nat,
         ∃ k101 : Nat,
         ∃ n102 : Int,
         (
          Row w90 { block := b7, off := (0 : Nat) } (0 : Nat) [Value.int IntKind.i64 n98, Value.slice p99 k100 k101, Value.int IntKind.i64 n102]) ∧
         Ca Try.prog (89 : Nat) #[Value.agg #[Value.int IntKind.i64 n98, Value.slice p99 k100 k101, Value.int IntKind.i64 n102]] w90 fun e103 w104 =>
         ∃ n105 : Int,
         ∃ p106 : Option Addr,
         ∃ k107 : Nat,
         ∃ k108 : Nat,
         ∃ n109 : Int,
         (
          e103 = Ending.returned (Value.agg #[Value.int IntKind.i64 n105, Value.slice p106 k107 k108, Value.int IntKind.i64 n109])) ∧
         LetA (Obj.cells #[Value.int IntKind.i64 (0 : Int), Value.slice none (0 : Nat) (0 : Nat), Value.int IntKind.i64 (0 : Int)] (32 : Nat)) w104 fun b110 w111 =>
         (
          WrRow w111 { block := b110, off := (0 : Nat) } (0 : Nat) [Value.int IntKind.i64 n105, Value.slice p106 k107 k108, Value.int IntKind.i64 n109]) ∧
         LetW (setRow w111 { block := b110, off := (0 : Nat) } (0 : Nat) [Value.int IntKind.i64 n105, Value.slice p106 k107 k108, Value.int IntKind.i64 n109]) fun w112 =>
         ∃ p113 : Option Addr,
         ∃ k114 : Nat,
         ∃ k115 : Nat,
         (
          w112.cell? { block := b110, off := (1 : Nat) } = some (Value.slice p113 k114 k115)) ∧
         ∃ n116 : Int,
         (
          w112.cell? { block := b110, off := (0 : Nat) } = some (Value.int IntKind.i64 n116)) ∧
         LetA (Obj.cells #[Value.int IntKind.i64 n6, Value.int IntKind.i64 n116] (64 : Nat)) w112 fun b117 w118 =>
         RunsV Try.prog (Builtin.append_ #[(30 : Nat), (30 : Nat)] (30 : Nat) #[Value.slice p113 k114 k115, Value.slice (some { block := b117, off := (0 : Nat) }) (1 : Nat) (1 : Nat)]) w118 fun v119 w120 =>
         ∃ p121 : Option Addr,
         ∃ k122 : Nat,
         ∃ k123 : Nat,
         (
          v119 = Value.slice p121 k122 k123) ∧
         (
          Wr w120 { block := b110, off := (1 : Nat) }) ∧
         LetW (w120.setCell { block := b110, off := (1 : Nat) } (Value.slice p121 k122 k123)) fun w124 =>
         ∃ n125 : Int,
         ∃ p126 : Option Addr,
         ∃ k127 : Nat,
         ∃ k128 : Nat,
         ∃ n129 : Int,
         (
          Row w124 { block := b110, off := (0 : Nat) } (0 : Nat) [Value.int IntKind.i64 n125, Value.slice p126 k127 k128, Value.int IntKind.i64 n129]) ∧
         (
          WrRow w124 { block := b9, off := (0 : Nat) } (0 : Nat) [Value.int IntKind.i64 n125, Value.slice p126 k127 k128, Value.int IntKind.i64 n129]) ∧
         LetW (setRow w124 { block := b9, off := (0 : Nat) } (0 : Nat) [Value.int IntKind.i64 n125, Value.slice p126 k127 k128, Value.int IntKind.i64 n129]) fun w130 =>
         ∃ n131 : Int,
         ∃ p132 : Option Addr,
         ∃ k133 : Nat,
         ∃ k134 : Nat,
         ∃ n135 : Int,
         (
          Row w130 { block := b9, off := (0 : Nat) } (0 : Nat) [Value.int IntKind.i64 n131, Value.slice p132 k133 k134, Value.int IntKind.i64 n135]) ∧
         R (Ending.returned (Value.tuple #[Value.agg #[Value.int IntKind.i64 n131, Value.slice p132 k133 k134, Value.int IntKind.i64 n135], Value.int IntKind.i64 (0 : Int)])) w130)))
    (
     Br (decide (n6 < (0 : Int)))
      (
       Br (decide (n6 < (0 : Int)))
        (
         (
          WrRow w17 { block := b9, off := (0 : Nat) } (0 : Nat) [Value.int IntKind.i64 (0 : Int), Value.slice none (0 : Nat) (0 : Nat), Value.int IntKind.i64 (0 : Int)]) ∧
         LetW (setRow w17 { block := b9, off := (0 : Nat) } (0 : Nat) [Value.int IntKind.i64 (0 : Int), Value.slice none (0 : Nat) (0 : Nat), Value.int IntKind.i64 (0 : Int)]) fun w136 =>
         ∃ n137 : Int,
         ∃ p138 : Option Addr,
         ∃ k139 : Nat,
         ∃ k140 : Nat,
         ∃ n141 : Int,
         (
          Row w136 { block := b9, off := (0 : Nat) } (0 : Nat) [Value.int IntKind.i64 n137, Value.slice p138 k139 k140, Value.int IntKind.i64 n141]) ∧
         R (Ending.returned (Value.tuple #[Value.agg #[Value.int IntKind.i64 n137, Value.slice p138 k139 k140, Value.int IntKind.i64 n141], Value.int IntKind.i64 (2 : Int)])) w136)
        (
         ∃ n142 : Int,
         ∃ p143 : Option Addr,
         ∃ k144 : Nat,
         ∃ k145 : Nat,
         ∃ n146 : Int,
         (
          Row w17 { block := b7, off := (0 : Nat) } (0 : Nat) [Value.int IntKind.i64 n142, Value.slice p143 k144 k145, Value.int IntKind.i64 n146]) ∧
         Ca Try.prog (53 : Nat) #[Value.agg #[Value.int IntKind.i64 n142, Value.slice p143 k144 k145, Value.int IntKind.i64 n146], Value.int IntKind.i64 n6] w17 fun e147 w148 =>
         ∃ n149 : Int,
         (
          e147 = Ending.returned (Value.int IntKind.i64 n149)) ∧
         Br (decide (n149 ≥ (0 : Int)))
          (
           (
            WrRow w148 { block := b9, off := (0 : Nat) } (0 : Nat) [Value.int IntKind.i64 (0 : Int), Value.slice none (0 : Nat) (0 : Nat), Value.int IntKind.i64 (0 : Int)]) ∧
           LetW (setRow w148 { block := b9, off := (0 : Nat) } (0 : Nat) [Value.int IntKind.i64 (0 : Int), Value.slice none (0 : Nat) (0 : Nat), Value.int IntKind.i64 (0 : Int)]) fun w150 =>
           ∃ n151 : Int,
           ∃ p152 : Option Addr,
           ∃ k153 : Nat,
           ∃ k154 : Nat,
           ∃ n155 : Int,
           (
            Row w150 { block := b9, off := (0 : Nat) } (0 : Nat) [Value.int IntKind.i64 n151, Value.slice p152 k153 k154, Value.int IntKind.i64 n155]) ∧
           R (Ending.returned (Value.tuple #[Value.agg #[Value.int IntKind.i64 n151, Value.slice p152 k153 k154, Value.int IntKind.i64 n155], Value.int IntKind.i64 (62 : Int)])) w150)
          (
           ∃ n156 : Int,
           ∃ p157 : Option Addr,
           ∃ k158 : Nat,
           ∃ k159 : Nat,
           ∃ n160 : Int,
           (
            Row w148 { block := b7, off := (0 : Nat) } (0 : Nat) [Value.int IntKind.i64 n156, Value.slice p157 k158 k159, Value.int IntKind.i64 n160]) ∧
           Ca Try.prog (89 : Nat) #[Value.agg #[Value.int IntKind.i64 n156, Value.slice p157 k158 k159, Value.int IntKind.i64 n160]] w148 fun e161 w162 =>
           ∃ n163 : Int,
           ∃ p164 : Option Addr,
           ∃ k165 : Nat,
           ∃ k166 : Nat,
           ∃ n167 : Int,
           (
            e161 = Ending.returned (Value.agg #[Value.int IntKind.i64 n163, Value.slice p164 k165 k166, Value.int IntKind.i64 n167])) ∧
           LetA (Obj.cells #[Value.int IntKind.i64 (0 : Int), Value.slice none (0 : Nat) (0 : Nat), Value.int IntKind.i64 (0 : Int)] (32 : Nat)) w162 fun b168 w169 =>
           (
            WrRow w169 { block := b168, off := (0 : Nat) } (0 : Nat) [Value.int IntKind.i64 n163, Value.slice p164 k165 k166, Value.int IntKind.i64 n167]) ∧
           LetW (setRow w169 { block := b168, off := (0 : Nat) } (0 : Nat) [Value.int IntKind.i64 n163, Value.slice p164 k165 k166, Value.int IntKind.i64 n167]) fun w170 =>
           ∃ p171 : Option Addr,
           ∃ k172 : Nat,
           ∃ k173 : Nat,
           (
            w170.cell? { block := b168, off := (1 : Nat) } = some (Value.slice p171 k172 k173)) ∧
           ∃ n174 : Int,
           (
            w170.cell? { block := b168, off := (0 : Nat) } = some (Value.int IntKind.i64 n174)) ∧
           LetA (Obj.cells #[Value.int IntKind.i64 n6, Value.int IntKind.i64 n174] (64 : Nat)) w170 fun b175 w176 =>
           RunsV Try.prog (Builtin.append_ #[(30 : Nat), (30 : Nat)] (30 : Nat) #[Value.slice p171 k172 k173, Value.slice (some { block := b175, off := (0 : Nat) }) (1 : Nat) (1 : Nat)]) w176 fun v177 w178 =>
           ∃ p179 : Option Addr,
           ∃ k180 : Nat,
           ∃ k181 : Nat,
           (
            v177 = Value.slice p179 k180 k181) ∧
           (
            Wr w178 { block := b168, off := (1 : Nat) }) ∧
           LetW (w178.setCell { block := b168, off := (1 : Nat) } (Value.slice p179 k180 k181)) fun w182 =>
           ∃ n183 : Int,
           ∃ p184 : Option Addr,
           ∃ k185 : Nat,
           ∃ k186 : Nat,
           ∃ n187 : Int,
           (
            Row w182 { block := b168, off := (0 : Nat) } (0 : Nat) [Value.int IntKind.i64 n183, Value.slice p184 k185 k186, Value.int IntKind.i64 n187]) ∧
           (
            WrRow w182 { block := b9, off := (0 : Nat) } (0 : Nat) [Value.int IntKind.i64 n183, Value.slice p184 k185 k186, Value.int IntKind.i64 n187]) ∧
           LetW (setRow w182 { block := b9, off := (0 : Nat) } (0 : Nat) [Value.int IntKind.i64 n183, Value.slice p184 k185 k186, Value.int IntKind.i64 n187]) fun w188 =>
           ∃ n189 : Int,
           ∃ p190 : Option Addr,
           ∃ k191 : Nat,
           ∃ k192 : Nat,
           ∃ n193 : Int,
           (
            Row w188 { block := b9, off := (0 : Nat) } (0 : Nat) [Value.int IntKind.i64 n189, Value.slice p190 k191 k192, Value.int IntKind.i64 n193]) ∧
           R (Ending.returned (Value.tuple #[Value.agg #[Value.int IntKind.i64 n189, Value.slice p190 k191 k192, Value.int IntKind.i64 n193], Value.int IntKind.i64 (0 : Int)])) w188)))
      (
       Br (decide (n6 ≥ (6 : Int)))
        (
         (
          WrRow w17 { block := b9, off := (0 : Nat) } (0 : Nat) [Value.int IntKind.i64 (0 : Int), Value.slice none (0 : Nat) (0 : Nat), Value.int IntKind.i64 (0 : Int)]) ∧
         LetW (setRow w17 { block := b9, off := (0 : Nat) } (0 : Nat) [Value.int IntKind.i64 (0 : Int), Value.slice none (0 : Nat) (0 : Nat), Value.int IntKind.i64 (0 : Int)]) fun w194 =>
         ∃ n195 : Int,
         ∃ p196 : Option Addr,
         ∃ k197 : Nat,
         ∃ k198 : Nat,
         ∃ n199 : Int,
         (
          Row w194 { block := b9, off := (0 : Nat) } (0 : Nat) [Value.int IntKind.i64 n195, Value.slice p196 k197 k198, Value.int IntKind.i64 n199]) ∧
         R (Ending.returned (Value.tuple #[Value.agg #[Value.int IntKind.i64 n195, Value.slice p196 k197 k198, Value.int IntKind.i64 n199], Value.int IntKind.i64 (2 : Int)])) w194)
        (
         ∃ n200 : Int,
         ∃ p201 : Option Addr,
         ∃ k202 : Nat,
         ∃ k203 : Nat,
         ∃ n204 : Int,
         (
          Row w17 { block := b7, off := (0 : Nat) } (0 : Nat) [Value.int IntKind.i64 n200, Value.slice p201 k202 k203, Value.int IntKind.i64 n204]) ∧
         Ca Try.prog (53 : Nat) #[Value.agg #[Value.int IntKind.i64 n200, Value.slice p201 k202 k203, Value.int IntKind.i64 n204], Value.int IntKind.i64 n6] w17 fun e205 w206 =>
         ∃ n207 : Int,
         (
          e205 = Ending.returned (Value.int IntKind.i64 n207)) ∧
         Br (decide (n207 ≥ (0 : Int)))
          (
           (
            WrRow w206 { block := b9, off := (0 : Nat) } (0 : Nat) [Value.int IntKind.i64 (0 : Int), Value.slice none (0 : Nat) (0 : Nat), Value.int IntKind.i64 (0 : Int)]) ∧
           LetW (setRow w206 { block := b9, off := (0 : Nat) } (0 : Nat) [Value.int IntKind.i64 (0 : Int), Value.slice none (0 : Nat) (0 : Nat), Value.int IntKind.i64 (0 : Int)]) fun w208 =>
           ∃ n209 : Int,
           ∃ p210 : Option Addr,
           ∃ k211 : Nat,
           ∃ k212 : Nat,
           ∃ n213 : Int,
           (
            Row w208 { block := b9, off := (0 : Nat) } (0 : Nat) [Value.int IntKind.i64 n209, Value.slice p210 k211 k212, Value.int IntKind.i64 n213]) ∧
           R (Ending.returned (Value.tuple #[Value.agg #[Value.int IntKind.i64 n209, Value.slice p210 k211 k212, Value.int IntKind.i64 n213], Value.int IntKind.i64 (62 : Int)])) w208)
          (
           ∃ n214 : Int,
           ∃ p215 : Option Addr,
           ∃ k216 : Nat,
           ∃ k217 : Nat,
           ∃ n218 : Int,
           (
            Row w206 { block := b7, off := (0 : Nat) } (0 : Nat) [Value.int IntKind.i64 n214, Value.slice p215 k216 k217, Value.int IntKind.i64 n218]) ∧
           Ca Try.prog (89 : Nat) #[Value.agg #[Value.int IntKind.i64 n214, Value.slice p215 k216 k217, Value.int IntKind.i64 n218]] w206 fun e219 w220 =>
           ∃ n221 : Int,
           ∃ p222 : Option Addr,
           ∃ k223 : Nat,
           ∃ k224 : Nat,
           ∃ n225 : Int,
           (
            e219 = Ending.returned (Value.agg #[Value.int IntKind.i64 n221, Value.slice p222 k223 k224, Value.int IntKind.i64 n225])) ∧
           LetA (Obj.cells #[Value.int IntKind.i64 (0 : Int), Value.slice none (0 : Nat) (0 : Nat), Value.int IntKind.i64 (0 : Int)] (32 : Nat)) w220 fun b226 w227 =>
           (
            WrRow w227 { block := b226, off := (0 : Nat) } (0 : Nat) [Value.int IntKind.i64 n221, Value.slice p222 k223 k224, Value.int IntKind.i64 n225]) ∧
           LetW (setRow w227 { block := b226, off := (0 : Nat) } (0 : Nat) [Value.int IntKind.i64 n221, Value.slice p222 k223 k224, Value.int IntKind.i64 n225]) fun w228 =>
           ∃ p229 : Option Addr,
           ∃ k230 : Nat,
           ∃ k231 : Nat,
           (
            w228.cell? { block := b226, off := (1 : Nat) } = some (Value.slice p229 k230 k231)) ∧
           ∃ n232 : Int,
           (
            w228.cell? { block := b226, off := (0 : Nat) } = some (Value.int IntKind.i64 n232)) ∧
           LetA (Obj.cells #[Value.int IntKind.i64 n6, Value.int IntKind.i64 n232] (64 : Nat)) w228 fun b233 w234 =>
           RunsV Try.prog (Builtin.append_ #[(30 : Nat), (30 : Nat)] (30 : Nat) #[Value.slice p229 k230 k231, Value.slice (some { block := b233, off := (0 : Nat) }) (1 : Nat) (1 : Nat)]) w234 fun v235 w236 =>
           ∃ p237 : Option Addr,
           ∃ k238 : Nat,
           ∃ k239 : Nat,
           (
            v235 = Value.slice p237 k238 k239) ∧
           (
            Wr w236 { block := b226, off := (1 : Nat) }) ∧
           LetW (w236.setCell { block := b226, off := (1 : Nat) } (Value.slice p237 k238 k239)) fun w240 =>
           ∃ n241 : Int,
           ∃ p242 : Option Addr,
           ∃ k243 : Nat,
           ∃ k244 : Nat,
           ∃ n245 : Int,
           (
            Row w240 { block := b226, off := (0 : Nat) } (0 : Nat) [Value.int IntKind.i64 n241, Value.slice p242 k243 k244, Value.int IntKind.i64 n245]) ∧
           (
            WrRow w240 { block := b9, off := (0 : Nat) } (0 : Nat) [Value.int IntKind.i64 n241, Value.slice p242 k243 k244, Value.int IntKind.i64 n245]) ∧
           LetW (setRow w240 { block := b9, off := (0 : Nat) } (0 : Nat) [Value.int IntKind.i64 n241, Value.slice p242 k243 k244, Value.int IntKind.i64 n245]) fun w246 =>
           ∃ n247 : Int,
           ∃ p248 : Option Addr,
           ∃ k249 : Nat,
           ∃ k250 : Nat,
           ∃ n251 : Int,
           (
            Row w246 { block := b9, off := (0 : Nat) } (0 : Nat) [Value.int IntKind.i64 n247, Value.slice p248 k249 k250, Value.int IntKind.i64 n251]) ∧
           R (Ending.returned (Value.tuple #[Value.agg #[Value.int IntKind.i64 n247, Value.slice p248 k249 k250, Value.int IntKind.i64 n251], Value.int IntKind.i64 (0 : Int)])) w246)))))
theorem cwith_ok (n1 : Int) (p2 : Option Addr) (k3 : Nat) (k4 : Nat) (n5 : Int) (n6 : Int) (w : World) (R : Ending → World → Prop) (h : cwith n1 p2 k3 k4 n5 n6 w R) : Ca Try.prog 65 #[Value.agg #[Value.int IntKind.i64 n1, Value.slice p2 k3 k4, Value.int IntKind.i64 n5], Value.int IntKind.i64 n6] w R :=
  Ca.of_fvc (c := bodyOf Try.f65) (by kernel_rfl) Try.func65 (by kernel_rfl) [] (Eq.mp (by kernel_rfl) h)

def cleaves (n1 : Int) (p2 : Option Addr) (k3 : Nat) (k4 : Nat) (n5 : Int) (n6 : Int) (w : World) (R : Ending → World → Prop) : Prop :=
 LetA (Obj.cells #[Value.int IntKind.i64 n1, Value.slice p2 k3 k4, Value.int IntKind.i64 n5] (32 : Nat)) w fun b7 w8 =>
 ∃ n9 : Int,
 ∃ p10 : Option Addr,
 ∃ k11 : Nat,
 ∃ k12 : Nat,
 ∃ n13 : Int,
 (
  Row w8 { block := b7, off := (0 : Nat) } (0 : Nat) [Value.int IntKind.i64 n9, Value.slice p10 k11 k12, Value.int IntKind.i64 n13]) ∧
 Ca Try.prog (21 : Nat) #[Value.agg #[Value.int IntKind.i64 n9, Value.slice p10 k11 k12, Value.int IntKind.i64 n13]] w8 fun e14 w15 =>
 ∃ n16 : Int,
 (
  e14 = Ending.returned (Value.int IntKind.i64 n16)) ∧
 Br (n16 != (0 : Int))
  (
   Br (n16 != (0 : Int))
    (
     R (Ending.returned (Value.int IntKind.i64 (2 : Int))) w15)
    (
     ∃ n17 : Int,
     ∃ p18 : Option Addr,
     ∃ k19 : Nat,
     ∃ k20 : Nat,
     ∃ n21 : Int,
     (
      Row w15 { block := b7, off := (0 : Nat) } (0 : Nat) [Value.int IntKind.i64 n17, Value.slice p18 k19 k20, Value.int IntKind.i64 n21]) ∧
     Ca Try.prog (53 : Nat) #[Value.agg #[Value.int IntKind.i64 n17, Value.slice p18 k19 k20, Value.int IntKind.i64 n21], Value.int IntKind.i64 n6] w15 fun e22 w23 =>
     ∃ n24 : Int,
     (
      e22 = Ending.returned (Value.int IntKind.i64 n24)) ∧
     Br (decide (n24 < (0 : Int)))
      (
       R (Ending.returned (Value.int IntKind.i64 (4 : Int))) w23)
      (
       ∃ p25 : Option Addr,
       ∃ k26 : Nat,
       ∃ k27 : Nat,
       (
        w23.cell? { block := b7, off := (1 : Nat) } = some (Value.slice p25 k26 k27)) ∧
       Br ((↑k26 : Int) == (1 : Int))
        (
         R (Ending.returned (Value.int IntKind.i64 (72 : Int))) w23)
        (
         R (Ending.returned (Value.int IntKind.i64 (0 : Int))) w23))))
  (
   ∃ n28 : Int,
   (
    w15.cell? { block := b7, off := (0 : Nat) } = some (Value.int IntKind.i64 n28)) ∧
   Br (n28 == (1099511627776 : Int))
    (
     R (Ending.returned (Value.int IntKind.i64 (2 : Int))) w15)
    (
     ∃ n29 : Int,
     ∃ p30 : Option Addr,
     ∃ k31 : Nat,
     ∃ k32 : Nat,
     ∃ n33 : Int,
     (
      Row w15 { block := b7, off := (0 : Nat) } (0 : Nat) [Value.int IntKind.i64 n29, Value.slice p30 k31 k32, Value.int IntKind.i64 n33]) ∧
     Ca Try.prog (53 : Nat) #[Value.agg #[Value.int IntKind.i64 n29, Value.slice p30 k31 k32, Value.int IntKind.i64 n33], Value.int IntKind.i64 n6] w15 fun e34 w35 =>
     ∃ n36 : Int,
     (
      e34 = Ending.returned (Value.int IntKind.i64 n36)) ∧
     Br (decide (n36 < (0 : Int)))
      (
       R (Ending.returned (Value.int IntKind.i64 (4 : Int))) w35)
      (
       ∃ p37 : Option Addr,
       ∃ k38 : Nat,
       ∃ k39 : Nat,
       (
        w35.cell? { block := b7, off := (1 : Nat) } = some (Value.slice p37 k38 k39)) ∧
       Br ((↑k38 : Int) == (1 : Int))
        (
         R (Ending.returned (Value.int IntKind.i64 (72 : Int))) w35)
        (
         R (Ending.returned (Value.int IntKind.i64 (0 : Int))) w35))))
theorem cleaves_ok (n1 : Int) (p2 : Option Addr) (k3 : Nat) (k4 : Nat) (n5 : Int) (n6 : Int) (w : World) (R : Ending → World → Prop) (h : cleaves n1 p2 k3 k4 n5 n6 w R) : Ca Try.prog 90 #[Value.agg #[Value.int IntKind.i64 n1, Value.slice p2 k3 k4, Value.int IntKind.i64 n5], Value.int IntKind.i64 n6] w R :=
  Ca.of_fvc (c := bodyOf Try.f90) (by kernel_rfl) Try.func90 (by kernel_rfl) [] (Eq.mp (by kernel_rfl) h)

def cwithout (n1 : Int) (p2 : Option Addr) (k3 : Nat) (k4 : Nat) (n5 : Int) (n6 : Int) (w : World) (R : Ending → World → Prop) : Prop :=
 LetA (Obj.cells #[Value.int IntKind.i64 n1, Value.slice p2 k3 k4, Value.int IntKind.i64 n5] (32 : Nat)) w fun b7 w8 =>
 LetA (Obj.cells #[Value.int IntKind.i64 (0 : Int), Value.slice none (0 : Nat) (0 : Nat), Value.int IntKind.i64 (0 : Int)] (32 : Nat)) w8 fun b9 w10 =>
 ∃ n11 : Int,
 ∃ p12 : Option Addr,
 ∃ k13 : Nat,
 ∃ k14 : Nat,
 ∃ n15 : Int,
 (
  Row w10 { block := b7, off := (0 : Nat) } (0 : Nat) [Value.int IntKind.i64 n11, Value.slice p12 k13 k14, Value.int IntKind.i64 n15]) ∧
 Ca Try.prog (90 : Nat) #[Value.agg #[Value.int IntKind.i64 n11, Value.slice p12 k13 k14, Value.int IntKind.i64 n15], Value.int IntKind.i64 n6] w10 fun e16 w17 =>
 ∃ n18 : Int,
 (
  e16 = Ending.returned (Value.int IntKind.i64 n18)) ∧
 Br (n18 != (0 : Int))
  (
   (
    WrRow w17 { block := b9, off := (0 : Nat) } (0 : Nat) [Value.int IntKind.i64 (0 : Int), Value.slice none (0 : Nat) (0 : Nat), Value.int IntKind.i64 (0 : Int)]) ∧
   LetW (setRow w17 { block := b9, off := (0 : Nat) } (0 : Nat) [Value.int IntKind.i64 (0 : Int), Value.slice none (0 : Nat) (0 : Nat), Value.int IntKind.i64 (0 : Int)]) fun w19 =>
   ∃ n20 : Int,
   ∃ p21 : Option Addr,
   ∃ k22 : Nat,
   ∃ k23 : Nat,
   ∃ n24 : Int,
   (
    Row w19 { block := b9, off := (0 : Nat) } (0 : Nat) [Value.int IntKind.i64 n20, Value.slice p21 k22 k23, Value.int IntKind.i64 n24]) ∧
   R (Ending.returned (Value.tuple #[Value.agg #[Value.int IntKind.i64 n20, Value.slice p21 k22 k23, Value.int IntKind.i64 n24], Value.int IntKind.i64 n18])) w19)
  (
   ∃ n25 : Int,
   ∃ p26 : Option Addr,
   ∃ k27 : Nat,
   ∃ k28 : Nat,
   ∃ n29 : Int,
   (
    Row w17 { block := b7, off := (0 : Nat) } (0 : Nat) [Value.int IntKind.i64 n25, Value.slice p26 k27 k28, Value.int IntKind.i64 n29]) ∧
   Ca Try.prog (89 : Nat) #[Value.agg #[Value.int IntKind.i64 n25, Value.slice p26 k27 k28, Value.int IntKind.i64 n29]] w17 fun e30 w31 =>
   ∃ n32 : Int,
   ∃ p33 : Option Addr,
   ∃ k34 : Nat,
   ∃ k35 : Nat,
   ∃ n36 : Int,
   (
    e30 = Ending.returned (Value.agg #[Value.int IntKind.i64 n32, Value.slice p33 k34 k35, Value.int IntKind.i64 n36])) ∧
   LetA (Obj.cells #[Value.int IntKind.i64 (0 : Int), Value.slice none (0 : Nat) (0 : Nat), Value.int IntKind.i64 (0 : Int)] (32 : Nat)) w31 fun b37 w38 =>
   (
    WrRow w38 { block := b37, off := (0 : Nat) } (0 : Nat) [Value.int IntKind.i64 n32, Value.slice p33 k34 k35, Value.int IntKind.i64 n36]) ∧
   LetW (setRow w38 { block := b37, off := (0 : Nat) } (0 : Nat) [Value.int IntKind.i64 n32, Value.slice p33 k34 k35, Value.int IntKind.i64 n36]) fun w39 =>
   ∃ n40 : Int,
   ∃ p41 : Option Addr,
   ∃ k42 : Nat,
   ∃ k43 : Nat,
   ∃ n44 : Int,
   (
    Row w39 { block := b7, off := (0 : Nat) } (0 : Nat) [Value.int IntKind.i64 n40, Value.slice p41 k42 k43, Value.int IntKind.i64 n44]) ∧
   Ca Try.prog (53 : Nat) #[Value.agg #[Value.int IntKind.i64 n40, Value.slice p41 k42 k43, Value.int IntKind.i64 n44], Value.int IntKind.i64 n6] w39 fun e45 w46 =>
   ∃ n47 : Int,
   (
    e45 = Ending.returned (Value.int IntKind.i64 n47)) ∧
   ∃ p48 : Option Addr,
   ∃ k49 : Nat,
   ∃ k50 : Nat,
   (
    w46.cell? { block := b37, off := (1 : Nat) } = some (Value.slice p48 k49 k50)) ∧
   LetI (IntKind.i64.wrap (n47 + (1 : Int))) fun n51 =>
   Ca Try.prog (97 : Nat) #[Value.slice p48 k49 k50, Value.int IntKind.i64 n47, Value.int IntKind.i64 n51] w46 fun e52 w53 =>
   ∃ p54 : Option Addr,
   ∃ k55 : Nat,
   ∃ k56 : Nat,
   (
    e52 = Ending.returned (Value.slice p54 k55 k56)) ∧
   (
    Wr w53 { block := b37, off := (1 : Nat) }) ∧
   LetW (w53.setCell { block := b37, off := (1 : Nat) } (Value.slice p54 k55 k56)) fun w57 =>
   ∃ n58 : Int,
   (
    w57.cell? { block := b37, off := (2 : Nat) } = some (Value.int IntKind.i64 n58)) ∧
   Br (n58 == n6)
    (
     (
      Wr w57 { block := b37, off := (2 : Nat) }) ∧
     LetW (w57.setCell { block := b37, off := (2 : Nat) } (Value.int IntKind.i64 (-1 : Int))) fun w59 =>
     ∃ n60 : Int,
     ∃ p61 : Option Addr,
     ∃ k62 : Nat,
     ∃ k63 : Nat,
     ∃ n64 : Int,
     (
      Row w59 { block := b37, off := (0 : Nat) } (0 : Nat) [Value.int IntKind.i64 n60, Value.slice p61 k62 k63, Value.int IntKind.i64 n64]) ∧
     (
      WrRow w59 { block := b9, off := (0 : Nat) } (0 : Nat) [Value.int IntKind.i64 n60, Value.slice p61 k62 k63, Value.int IntKind.i64 n64]) ∧
     LetW (setRow w59 { block := b9, off := (0 : Nat) } (0 : Nat) [Value.int IntKind.i64 n60, Value.slice p61 k62 k63, Value.int IntKind.i64 n64]) fun w65 =>
     ∃ n66 : Int,
     ∃ p67 : Option Addr,
     ∃ k68 : Nat,
     ∃ k69 : Nat,
     ∃ n70 : Int,
     (
      Row w65 { block := b9, off := (0 : Nat) } (0 : Nat) [Value.int IntKind.i64 n66, Value.slice p67 k68 k69, Value.int IntKind.i64 n70]) ∧
     R (Ending.returned (Value.tuple #[Value.agg #[Value.int IntKind.i64 n66, Value.slice p67 k68 k69, Value.int IntKind.i64 n70], Value.int IntKind.i64 (0 : Int)])) w65)
    (
     ∃ n71 : Int,
     ∃ p72 : Option Addr,
     ∃ k73 : Nat,
     ∃ k74 : Nat,
     ∃ n75 : Int,
     (
      Row w57 { block := b37, off := (0 : Nat) } (0 : Nat) [Value.int IntKind.i64 n71, Value.slice p72 k73 k74, Value.int IntKind.i64 n75]) ∧
     (
      WrRow w57 { block := b9, off := (0 : Nat) } (0 : Nat) [Value.int IntKind.i64 n71, Value.slice p72 k73 k74, Value.int IntKind.i64 n75]) ∧
     LetW (setRow w57 { block := b9, off := (0 : Nat) } (0 : Nat) [Value.int IntKind.i64 n71, Value.slice p72 k73 k74, Value.int IntKind.i64 n75]) fun w76 =>
     ∃ n77 : Int,
     ∃ p78 : Option Addr,
     ∃ k79 : Nat,
     ∃ k80 : Nat,
     ∃ n81 : Int,
     (
      Row w76 { block := b9, off := (0 : Nat) } (0 : Nat) [Value.int IntKind.i64 n77, Value.slice p78 k79 k80, Value.int IntKind.i64 n81]) ∧
     R (Ending.returned (Value.tuple #[Value.agg #[Value.int IntKind.i64 n77, Value.slice p78 k79 k80, Value.int IntKind.i64 n81], Value.int IntKind.i64 (0 : Int)])) w76))
theorem cwithout_ok (n1 : Int) (p2 : Option Addr) (k3 : Nat) (k4 : Nat) (n5 : Int) (n6 : Int) (w : World) (R : Ending → World → Prop) (h : cwithout n1 p2 k3 k4 n5 n6 w R) : Ca Try.prog 88 #[Value.agg #[Value.int IntKind.i64 n1, Value.slice p2 k3 k4, Value.int IntKind.i64 n5], Value.int IntKind.i64 n6] w R :=
  Ca.of_fvc (c := bodyOf Try.f88) (by kernel_rfl) Try.func88 (by kernel_rfl) [] (Eq.mp (by kernel_rfl) h)

def cdrain (n1 : Int) (p2 : Option Addr) (k3 : Nat) (k4 : Nat) (n5 : Int) (n6 : Int) (w : World) (R : Ending → World → Prop) : Prop :=
 LetA (Obj.cells #[Value.int IntKind.i64 n1, Value.slice p2 k3 k4, Value.int IntKind.i64 n5] (32 : Nat)) w fun b7 w8 =>
 LetA (Obj.cells #[Value.int IntKind.i64 (0 : Int), Value.slice none (0 : Nat) (0 : Nat), Value.int IntKind.i64 (0 : Int)] (32 : Nat)) w8 fun b9 w10 =>
 ∃ n11 : Int,
 ∃ p12 : Option Addr,
 ∃ k13 : Nat,
 ∃ k14 : Nat,
 ∃ n15 : Int,
 (
  Row w10 { block := b7, off := (0 : Nat) } (0 : Nat) [Value.int IntKind.i64 n11, Value.slice p12 k13 k14, Value.int IntKind.i64 n15]) ∧
 Ca Try.prog (90 : Nat) #[Value.agg #[Value.int IntKind.i64 n11, Value.slice p12 k13 k14, Value.int IntKind.i64 n15], Value.int IntKind.i64 n6] w10 fun e16 w17 =>
 ∃ n18 : Int,
 (
  e16 = Ending.returned (Value.int IntKind.i64 n18)) ∧
 Br (n18 != (0 : Int))
  (
   (
    WrRow w17 { block := b9, off := (0 : Nat) } (0 : Nat) [Value.int IntKind.i64 (0 : Int), Value.slice none (0 : Nat) (0 : Nat), Value.int IntKind.i64 (0 : Int)]) ∧
   LetW (setRow w17 { block := b9, off := (0 : Nat) } (0 : Nat) [Value.int IntKind.i64 (0 : Int), Value.slice none (0 : Nat) (0 : Nat), Value.int IntKind.i64 (0 : Int)]) fun w19 =>
   ∃ n20 : Int,
   ∃ p21 : Option Addr,
   ∃ k22 : Nat,
   ∃ k23 : Nat,
   ∃ n24 : Int,
   (
    Row w19 { block := b9, off := (0 : Nat) } (0 : Nat) [Value.int IntKind.i64 n20, Value.slice p21 k22 k23, Value.int IntKind.i64 n24]) ∧
   R (Ending.returned (Value.tuple #[Value.agg #[Value.int IntKind.i64 n20, Value.slice p21 k22 k23, Value.int IntKind.i64 n24], Value.int IntKind.i64 n18])) w19)
  (
   ∃ n25 : Int,
   (
    w17.cell? { block := b7, off := (2 : Nat) } = some (Value.int IntKind.i64 n25)) ∧
   Br (decide (n25 ≥ (0 : Int)))
    (
     (
      WrRow w17 { block := b9, off := (0 : Nat) } (0 : Nat) [Value.int IntKind.i64 (0 : Int), Value.slice none (0 : Nat) (0 : Nat), Value.int IntKind.i64 (0 : Int)]) ∧
     LetW (setRow w17 { block := b9, off := (0 : Nat) } (0 : Nat) [Value.int IntKind.i64 (0 : Int), Value.slice none (0 : Nat) (0 : Nat), Value.int IntKind.i64 (0 : Int)]) fun w26 =>
     ∃ n27 : Int,
     ∃ p28 : Option Addr,
     ∃ k29 : Nat,
     ∃ k30 : Nat,
     ∃ n31 : Int,
     (
      Row w26 { block := b9, off := (0 : Nat) } (0 : Nat) [Value.int IntKind.i64 n27, Value.slice p28 k29 k30, Value.int IntKind.i64 n31]) ∧
     R (Ending.returned (Value.tuple #[Value.agg #[Value.int IntKind.i64 n27, Value.slice p28 k29 k30, Value.int IntKind.i64 n31], Value.int IntKind.i64 (62 : Int)])) w26)
    (
     ∃ n32 : Int,
     ∃ p33 : Option Addr,
     ∃ k34 : Nat,
     ∃ k35 : Nat,
     ∃ n36 : Int,
     (
      Row w17 { block := b7, off := (0 : Nat) } (0 : Nat) [Value.int IntKind.i64 n32, Value.slice p33 k34 k35, Value.int IntKind.i64 n36]) ∧
     Ca Try.prog (89 : Nat) #[Value.agg #[Value.int IntKind.i64 n32, Value.slice p33 k34 k35, Value.int IntKind.i64 n36]] w17 fun e37 w38 =>
     ∃ n39 : Int,
     ∃ p40 : Option Addr,
     ∃ k41 : Nat,
     ∃ k42 : Nat,
     ∃ n43 : Int,
     (
      e37 = Ending.returned (Value.agg #[Value.int IntKind.i64 n39, Value.slice p40 k41 k42, Value.int IntKind.i64 n43])) ∧
     LetA (Obj.cells #[Value.int IntKind.i64 (0 : Int), Value.slice none (0 : Nat) (0 : Nat), Value.int IntKind.i64 (0 : Int)] (32 : Nat)) w38 fun b44 w45 =>
     (
      WrRow w45 { block := b44, off := (0 : Nat) } (0 : Nat) [Value.int IntKind.i64 n39, Value.slice p40 k41 k42, Value.int IntKind.i64 n43]) ∧
     LetW (setRow w45 { block := b44, off := (0 : Nat) } (0 : Nat) [Value.int IntKind.i64 n39, Value.slice p40 k41 k42, Value.int IntKind.i64 n43]) fun w46 =>
     (
      Wr w46 { block := b44, off := (2 : Nat) }) ∧
     LetW (w46.setCell { block := b44, off := (2 : Nat) } (Value.int IntKind.i64 n6)) fun w47 =>
     ∃ n48 : Int,
     ∃ p49 : Option Addr,
     ∃ k50 : Nat,
     ∃ k51 : Nat,
     ∃ n52 : Int,
     (
      Row w47 { block := b44, off := (0 : Nat) } (0 : Nat) [Value.int IntKind.i64 n48, Value.slice p49 k50 k51, Value.int IntKind.i64 n52]) ∧
     (
      WrRow w47 { block := b9, off := (0 : Nat) } (0 : Nat) [Value.int IntKind.i64 n48, Value.slice p49 k50 k51, Value.int IntKind.i64 n52]) ∧
     LetW (setRow w47 { block := b9, off := (0 : Nat) } (0 : Nat) [Value.int IntKind.i64 n48, Value.slice p49 k50 k51, Value.int IntKind.i64 n52]) fun w53 =>
     ∃ n54 : Int,
     ∃ p55 : Option Addr,
     ∃ k56 : Nat,
     ∃ k57 : Nat,
     ∃ n58 : Int,
     (
      Row w53 { block := b9, off := (0 : Nat) } (0 : Nat) [Value.int IntKind.i64 n54, Value.slice p55 k56 k57, Value.int IntKind.i64 n58]) ∧
     R (Ending.returned (Value.tuple #[Value.agg #[Value.int IntKind.i64 n54, Value.slice p55 k56 k57, Value.int IntKind.i64 n58], Value.int IntKind.i64 (0 : Int)])) w53))
theorem cdrain_ok (n1 : Int) (p2 : Option Addr) (k3 : Nat) (k4 : Nat) (n5 : Int) (n6 : Int) (w : World) (R : Ending → World → Prop) (h : cdrain n1 p2 k3 k4 n5 n6 w R) : Ca Try.prog 68 #[Value.agg #[Value.int IntKind.i64 n1, Value.slice p2 k3 k4, Value.int IntKind.i64 n5], Value.int IntKind.i64 n6] w R :=
  Ca.of_fvc (c := bodyOf Try.f68) (by kernel_rfl) Try.func68 (by kernel_rfl) [] (Eq.mp (by kernel_rfl) h)

def ccheck (n1 : Int) (p2 : Option Addr) (k3 : Nat) (k4 : Nat) (n5 : Int) (w : World) (R : Ending → World → Prop) : Prop :=
 LetA (Obj.cells #[Value.int IntKind.i64 n1, Value.slice p2 k3 k4, Value.int IntKind.i64 n5] (32 : Nat)) w fun b6 w7 =>
 ∃ n8 : Int,
 (
  w7.cell? { block := b6, off := (0 : Nat) } = some (Value.int IntKind.i64 n8)) ∧
 Br (decide (n8 < (1 : Int)))
  (
   R (Ending.returned (Value.int IntKind.i64 (2 : Int))) w7)
  (
   ∃ n9 : Int,
   (
    w7.cell? { block := b6, off := (0 : Nat) } = some (Value.int IntKind.i64 n9)) ∧
   Br (decide (n9 > (1099511627776 : Int)))
    (
     R (Ending.returned (Value.int IntKind.i64 (2 : Int))) w7)
    (
     ∃ p10 : Option Addr,
     ∃ k11 : Nat,
     ∃ k12 : Nat,
     (
      w7.cell? { block := b6, off := (1 : Nat) } = some (Value.slice p10 k11 k12)) ∧
     Br (decide ((↑k11 : Int) < (1 : Int)))
      (
       R (Ending.returned (Value.int IntKind.i64 (2 : Int))) w7)
      (
       ∃ p13 : Option Addr,
       ∃ k14 : Nat,
       ∃ k15 : Nat,
       (
        w7.cell? { block := b6, off := (1 : Nat) } = some (Value.slice p13 k14 k15)) ∧
       Br (decide ((↑k14 : Int) > (6 : Int)))
        (
         R (Ending.returned (Value.int IntKind.i64 (2 : Int))) w7)
        (
         ∃ p16 : Option Addr,
         ∃ k17 : Nat,
         ∃ k18 : Nat,
         (
          w7.cell? { block := b6, off := (1 : Nat) } = some (Value.slice p16 k17 k18)) ∧
         ∃ I19 : Nat → List Value → World → Prop,
         (
          ∃ k20 : Nat,
          I19 k20 [Value.int IntKind.i64 (0 : Int), Value.int IntKind.i64 (0 : Int)] w7) ∧
         ∀ n21 : Int,
         ∀ n22 : Int,
         ∀ k23 : Nat,
         ∀ w24 : World,
         (
          I19 k23 [Value.int IntKind.i64 n21, Value.int IntKind.i64 n22] w24) →
         Br (decide (n22 < (↑k17 : Int)))
          (
           NilOk p16 fun a25 =>
           (
            (
             (0 : Int) ≤ n22) ∧
            n22 < (↑k17 : Int)) ∧
           ∃ n26 : Int,
           ∃ n27 : Int,
           (
            Row w24 (a25.add (n22.toNat * (2 : Nat))) (0 : Nat) [Value.int IntKind.i64 n26, Value.int IntKind.i64 n27]) ∧
           LetA (Obj.cells #[Value.int IntKind.i64 (0 : Int), Value.int IntKind.i64 (0 : Int)] (64 : Nat)) w24 fun b28 w29 =>
           (
            WrRow w29 { block := b28, off := (0 : Nat) } (0 : Nat) [Value.int IntKind.i64 n26, Value.int IntKind.i64 n27]) ∧
           LetW (setRow w29 { block := b28, off := (0 : Nat) } (0 : Nat) [Value.int IntKind.i64 n26, Value.int IntKind.i64 n27]) fun w30 =>
           ∃ n31 : Int,
           (
            w30.cell? { block := b28, off := (0 : Nat) } = some (Value.int IntKind.i64 n31)) ∧
           Br (decide (n31 < (0 : Int)))
            (
             R (Ending.returned (Value.int IntKind.i64 (2 : Int))) w30)
            (
             ∃ n32 : Int,
             (
              w30.cell? { block := b28, off := (0 : Nat) } = some (Value.int IntKind.i64 n32)) ∧
             Br (decide (n32 ≥ (6 : Int)))
              (
               R (Ending.returned (Value.int IntKind.i64 (2 : Int))) w30)
              (
               ∃ n33 : Int,
               (
                w30.cell? { block := b28, off := (1 : Nat) } = some (Value.int IntKind.i64 n33)) ∧
               Br (decide (n33 < (1 : Int)))
                (
                 R (Ending.returned (Value.int IntKind.i64 (2 : Int))) w30)
                (
                 ∃ n34 : Int,
                 (
                  w30.cell? { block := b28, off := (1 : Nat) } = some (Value.int IntKind.i64 n34)) ∧
                 ∃ n35 : Int,
                 (
                  w30.cell? { block := b6, off := (0 : Nat) } = some (Value.int IntKind.i64 n35)) ∧
                 Br (decide (n34 > n35))
                  (
                   R (Ending.returned (Value.int IntKind.i64 (2 : Int))) w30)
                  (
                   ∃ n36 : Int,
                   ∃ p37 : Option Addr,
                   ∃ k38 : Nat,
                   ∃ k39 : Nat,
                   ∃ n40 : Int,
                   (
                    Row w30 { block := b6, off := (0 : Nat) } (0 : Nat) [Value.int IntKind.i64 n36, Value.slice p37 k38 k39, Value.int IntKind.i64 n40]) ∧
                   ∃ n41 : Int,
                   (
                    w30.cell? { block := b28, off := (0 : Nat) } = some (Value.int IntKind.i64 n41)) ∧
                   Ca Try.prog (53 : Nat) #[Value.agg #[Value.int IntKind.i64 n36, Value.slice p37 k38 k39, Value.int IntKind.i64 n40], Value.int IntKind.i64 n41] w30 fun e42 w43 =>
                   ∃ n44 : Int,
                   (
                    e42 = Ending.returned (Value.int IntKind.i64 n44)) ∧
                   Br (n44 != n22)
                    (
                     R (Ending.returned (Value.int IntKind.i64 (2 : Int))) w43)
                    (
                     LetI (IntKind.i64.wrap (n22 + (1 : Int))) fun n45 =>
                     ∃ k46 : Nat,
                     (
                      k46 < k23) ∧
                     I19 k46 [Value.int IntKind.i64 n21, Value.int IntKind.i64 n45] w43))))))
          (
           ∃ n47 : Int,
           (
            w24.cell? { block := b6, off := (2 : Nat) } = some (Value.int IntKind.i64 n47)) ∧
           Br (n47 != (-1 : Int))
            (
             ∃ n48 : Int,
             ∃ p49 : Option Addr,
             ∃ k50 : Nat,
             ∃ k51 : Nat,
             ∃ n52 : Int,
             (
              Row w24 { block := b6, off := (0 : Nat) } (0 : Nat) [Value.int IntKind.i64 n48, Value.slice p49 k50 k51, Value.int IntKind.i64 n52]) ∧
             ∃ n53 : Int,
             (
              w24.cell? { block := b6, off := (2 : Nat) } = some (Value.int IntKind.i64 n53)) ∧
             Ca Try.prog (53 : Nat) #[Value.agg #[Value.int IntKind.i64 n48, Value.slice p49 k50 k51, Value.int IntKind.i64 n52], Value.int IntKind.i64 n53] w24 fun e54 w55 =>
             ∃ n56 : Int,
             (
              e54 = Ending.returned (Value.int IntKind.i64 n56)) ∧
             Br (decide (n56 < (0 : Int)))
              (
               R (Ending.returned (Value.int IntKind.i64 (2 : Int))) w55)
              (
               R (Ending.returned (Value.int IntKind.i64 (0 : Int))) w55))
            (
             R (Ending.returned (Value.int IntKind.i64 (0 : Int))) w24))))))
theorem ccheck_ok (n1 : Int) (p2 : Option Addr) (k3 : Nat) (k4 : Nat) (n5 : Int) (w : World) (R : Ending → World → Prop) (h : ccheck n1 p2 k3 k4 n5 w R) : Ca Try.prog 21 #[Value.agg #[Value.int IntKind.i64 n1, Value.slice p2 k3 k4, Value.int IntKind.i64 n5]] w R :=
  Ca.of_fvc (c := bodyOf Try.f21) (by kernel_rfl) Try.func21 (by kernel_rfl) [] (Eq.mp (by kernel_rfl) h)

def cat (n1 : Int) (p2 : Option Addr) (k3 : Nat) (k4 : Nat) (n5 : Int) (n6 : Int) (w : World) (R : Ending → World → Prop) : Prop :=
 LetA (Obj.cells #[Value.int IntKind.i64 n1, Value.slice p2 k3 k4, Value.int IntKind.i64 n5] (32 : Nat)) w fun b7 w8 =>
 LetA (Obj.cells #[Value.int IntKind.i64 n6] (3 : Nat)) w8 fun b9 w10 =>
 ∃ p11 : Option Addr,
 ∃ k12 : Nat,
 ∃ k13 : Nat,
 (
  w10.cell? { block := b7, off := (1 : Nat) } = some (Value.slice p11 k12 k13)) ∧
 Ca Try.prog (86 : Nat) #[Value.slice p11 k12 k13, Value.func (Fn.func (87 : Nat)) #[] #[Value.pointer (some { block := b9, off := (0 : Nat) })]] w10 fun e14 w15 =>
 ∃ n16 : Int,
 (
  e14 = Ending.returned (Value.int IntKind.i64 n16)) ∧
 R (Ending.returned (Value.int IntKind.i64 n16)) w15
theorem cat_ok (n1 : Int) (p2 : Option Addr) (k3 : Nat) (k4 : Nat) (n5 : Int) (n6 : Int) (w : World) (R : Ending → World → Prop) (h : cat n1 p2 k3 k4 n5 n6 w R) : Ca Try.prog 53 #[Value.agg #[Value.int IntKind.i64 n1, Value.slice p2 k3 k4, Value.int IntKind.i64 n5], Value.int IntKind.i64 n6] w R :=
  Ca.of_fvc (c := bodyOf Try.f53) (by kernel_rfl) Try.func53 (by kernel_rfl) [] (Eq.mp (by kernel_rfl) h)

end Go.Proofs.Ytljipmhkpnigkaa
