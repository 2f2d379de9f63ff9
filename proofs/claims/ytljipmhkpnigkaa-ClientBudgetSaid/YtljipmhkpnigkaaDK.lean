/- The verification conditions of this seat's functions, printed by a program; the kernel holds each against the loaded code. -/
import Derived.Test.YtljipmhkpnigkaaProg
import Derived.KernelRfl
import Derived.Test.YtljipmhkpnigkaaV5
set_option maxRecDepth 100000
namespace Go.Proofs.Ytljipmhkpnigkaa
open Go Go.Vc Go.Proofs
def knear (n1 : Int) (w : World) (R : Ending → World → Prop) : Prop :=
 LetI (max n1 (0 : Int)) fun n2 =>
 LetI (min n2 (1099511627776 : Int)) fun n3 =>
 R (Ending.returned (Value.int IntKind.i64 n3)) w
theorem knear_ok (n1 : Int) (w : World) (R : Ending → World → Prop) (h : knear n1 w R) : Ca Try.prog 74 #[Value.int IntKind.i64 n1] w R :=
  Ca.of_fvc (c := bodyOf Try.f74) (by kernel_rfl) Try.func74 (by kernel_rfl) [] (Eq.mp (by kernel_rfl) h)

def knone (b1 : Nat) (w : World) (R : Ending → World → Prop) : Prop :=
 ∃ p2 : Option Addr,
 (
  w.cell? { block := b1, off := (16 : Nat) } = some (Value.pointer p2)) ∧
 R (Ending.returned (Value.bool p2.isNone)) w
theorem knone_ok (b1 : Nat) (w : World) (R : Ending → World → Prop) (h : knone b1 w R) : Ca Try.prog 70 #[Value.pointer (some { block := b1, off := (0 : Nat) })] w R :=
  Ca.of_fvc (c := bodyOf Try.f70) (by kernel_rfl) Try.func70 (by kernel_rfl) [] (Eq.mp (by kernel_rfl) h)

def knone0 (w : World) (R : Ending → World → Prop) : Prop :=
 R (Ending.returned (Value.bool true)) w
theorem knone0_ok (w : World) (R : Ending → World → Prop) (h : knone0  w R) : Ca Try.prog 70 #[Value.pointer none] w R :=
  Ca.of_fvc (c := bodyOf Try.f70) (by kernel_rfl) Try.func70 (by kernel_rfl) [] (Eq.mp (by kernel_rfl) h)

def kquestion (w : World) (R : Ending → World → Prop) : Prop :=
 LetA (Obj.cells #[Value.int IntKind.i64 (16 : Int), Value.int IntKind.i64 (7 : Int), Value.int IntKind.i64 (0 : Int), Value.int IntKind.i64 (0 : Int), Value.int IntKind.i64 (0 : Int), Value.int IntKind.i64 (0 : Int), Value.int IntKind.i64 (0 : Int), Value.int IntKind.i64 (0 : Int), Value.int IntKind.i64 (0 : Int), Value.string { data := #[] }, Value.string { data := #[] }, Value.int IntKind.i64 (0 : Int), Value.int IntKind.i64 (0 : Int), Value.string { data := #[] }, Value.int IntKind.i64 (0 : Int), Value.int IntKind.i64 (0 : Int), Value.int IntKind.i64 (0 : Int), Value.int IntKind.i64 (0 : Int), Value.int IntKind.i64 (0 : Int), Value.int IntKind.i64 (0 : Int), Value.int IntKind.i64 (0 : Int), Value.string { data := #[] }, Value.string { data := #[] }, Value.int IntKind.i64 (0 : Int), Value.int IntKind.i64 (0 : Int), Value.slice none (0 : Nat) (0 : Nat), Value.int IntKind.i64 (0 : Int), Value.int IntKind.i64 (0 : Int), Value.int IntKind.i64 (0 : Int), Value.int IntKind.i64 (0 : Int)] (70 : Nat)) w fun b1 w2 =>
 R (Ending.returned (Value.slice (some { block := b1, off := (0 : Nat) }) (1 : Nat) (1 : Nat))) w2
theorem kquestion_ok (w : World) (R : Ending → World → Prop) (h : kquestion  w R) : Ca Try.prog 93 #[] w R :=
  Ca.of_fvc (c := bodyOf Try.f93) (by kernel_rfl) Try.func93 (by kernel_rfl) [] (Eq.mp (by kernel_rfl) h)

def kask (b1 : Nat) (n2 : Int) (w : World) (R : Ending → World → Prop) : Prop :=
 (
  Wr w { block := b1, off := (47 : Nat) }) ∧
 LetW (w.setCell { block := b1, off := (47 : Nat) } (Value.int IntKind.i64 (1 : Int))) fun w3 =>
 (
  Wr w3 { block := b1, off := (48 : Nat) }) ∧
 LetW (w3.setCell { block := b1, off := (48 : Nat) } (Value.int IntKind.i64 n2)) fun w4 =>
 Ca Try.prog (93 : Nat) #[] w4 fun e5 w6 =>
 ∃ p7 : Option Addr,
 ∃ k8 : Nat,
 ∃ k9 : Nat,
 (
  e5 = Ending.returned (Value.slice p7 k8 k9)) ∧
 R (Ending.returned (Value.slice p7 k8 k9)) w6
theorem kask_ok (b1 : Nat) (n2 : Int) (w : World) (R : Ending → World → Prop) (h : kask b1 n2 w R) : Ca Try.prog 75 #[Value.pointer (some { block := b1, off := (0 : Nat) }), Value.int IntKind.i64 n2] w R :=
  Ca.of_fvc (c := bodyOf Try.f75) (by kernel_rfl) Try.func75 (by kernel_rfl) [] (Eq.mp (by kernel_rfl) h)

def ktry (b1 : Nat) (n2 : Int) (w : World) (R : Ending → World → Prop) : Prop :=
 ∃ n3 : Int,
 (
  w.cell? { block := b1, off := (22 : Nat) } = some (Value.int IntKind.i64 n3)) ∧
 LetI (IntKind.i64.wrap (n3 + (1 : Int))) fun n4 =>
 (
  Wr w { block := b1, off := (22 : Nat) }) ∧
 LetW (w.setCell { block := b1, off := (22 : Nat) } (Value.int IntKind.i64 n4)) fun w5 =>
 ∃ n6 : Int,
 (
  w5.cell? { block := b1, off := (13 : Nat) } = some (Value.int IntKind.i64 n6)) ∧
 (
  Wr w5 { block := b1, off := (19 : Nat) }) ∧
 LetW (w5.setCell { block := b1, off := (19 : Nat) } (Value.int IntKind.i64 n6)) fun w7 =>
 (
  Wr w7 { block := b1, off := (47 : Nat) }) ∧
 LetW (w7.setCell { block := b1, off := (47 : Nat) } (Value.int IntKind.i64 (2 : Int))) fun w8 =>
 (
  Wr w8 { block := b1, off := (48 : Nat) }) ∧
 LetW (w8.setCell { block := b1, off := (48 : Nat) } (Value.int IntKind.i64 n2)) fun w9 =>
 ∃ n10 : Int,
 ∃ p11 : Option Addr,
 ∃ k12 : Nat,
 ∃ k13 : Nat,
 ∃ n14 : Int,
 (
  Row w9 { block := b1, off := (13 : Nat) } (0 : Nat) [Value.int IntKind.i64 n10, Value.slice p11 k12 k13, Value.int IntKind.i64 n14]) ∧
 Ca Try.prog (22 : Nat) #[Value.agg #[Value.int IntKind.i64 n10, Value.slice p11 k12 k13, Value.int IntKind.i64 n14]] w9 fun e15 w16 =>
 ∃ n17 : Int,
 (
  e15 = Ending.returned (Value.int IntKind.i64 n17)) ∧
 ∃ n18 : Int,
 ∃ s19 : ByteArray,
 ∃ s20 : ByteArray,
 ∃ n21 : Int,
 (
  Row w16 { block := b1, off := (25 : Nat) } (0 : Nat) [Value.int IntKind.i64 n18, Value.string s19, Value.string s20, Value.int IntKind.i64 n21]) ∧
 Ca Try.prog (92 : Nat) #[Value.agg #[Value.int IntKind.i64 n18, Value.string s19, Value.string s20, Value.int IntKind.i64 n21]] w16 fun e22 w23 =>
 ∃ b24 : Bool,
 (
  e22 = Ending.returned (Value.bool b24)) ∧
 Br (b24)
  (
   ∃ n25 : Int,
   ∃ p26 : Option Addr,
   ∃ k27 : Nat,
   ∃ k28 : Nat,
   ∃ n29 : Int,
   (
    Row w23 { block := b1, off := (13 : Nat) } (0 : Nat) [Value.int IntKind.i64 n25, Value.slice p26 k27 k28, Value.int IntKind.i64 n29]) ∧
   Ca Try.prog (23 : Nat) #[Value.agg #[Value.int IntKind.i64 n25, Value.slice p26 k27 k28, Value.int IntKind.i64 n29]] w23 fun e30 w31 =>
   ∃ n32 : Int,
   (
    e30 = Ending.returned (Value.int IntKind.i64 n32)) ∧
   ∃ n33 : Int,
   ∃ n34 : Int,
   ∃ n35 : Int,
   ∃ n36 : Int,
   ∃ n37 : Int,
   ∃ n38 : Int,
   ∃ n39 : Int,
   ∃ n40 : Int,
   ∃ s41 : ByteArray,
   ∃ s42 : ByteArray,
   ∃ n43 : Int,
   ∃ n44 : Int,
   ∃ s45 : ByteArray,
   ∃ n46 : Int,
   ∃ n47 : Int,
   ∃ n48 : Int,
   ∃ n49 : Int,
   ∃ n50 : Int,
   ∃ n51 : Int,
   ∃ n52 : Int,
   ∃ s53 : ByteArray,
   ∃ s54 : ByteArray,
   ∃ n55 : Int,
   ∃ n56 : Int,
   ∃ p57 : Option Addr,
   ∃ k58 : Nat,
   ∃ k59 : Nat,
   ∃ n60 : Int,
   ∃ n61 : Int,
   ∃ n62 : Int,
   ∃ n63 : Int,
   (
    Row w31 { block := b1, off := (18 : Nat) } (0 : Nat) [Value.int IntKind.i64 n33, Value.int IntKind.i64 n34, Value.int IntKind.i64 n35, Value.int IntKind.i64 n36, Value.int IntKind.i64 n37, Value.int IntKind.i64 n38, Value.int IntKind.i64 n39, Value.int IntKind.i64 n40, Value.string s41, Value.string s42, Value.int IntKind.i64 n43, Value.int IntKind.i64 n44, Value.string s45, Value.int IntKind.i64 n46, Value.int IntKind.i64 n47, Value.int IntKind.i64 n48, Value.int IntKind.i64 n49, Value.int IntKind.i64 n50, Value.int IntKind.i64 n51, Value.int IntKind.i64 n52, Value.string s53, Value.string s54, Value.int IntKind.i64 n55, Value.int IntKind.i64 n56, Value.slice p57 k58 k59, Value.int IntKind.i64 n60, Value.int IntKind.i64 n61, Value.int IntKind.i64 n62, Value.int IntKind.i64 n63]) ∧
   LetA (Obj.cells #[Value.int IntKind.i64 n32, Value.int IntKind.i64 n33, Value.int IntKind.i64 n34, Value.int IntKind.i64 n35, Value.int IntKind.i64 n36, Value.int IntKind.i64 n37, Value.int IntKind.i64 n38, Value.int IntKind.i64 n39, Value.int IntKind.i64 n40, Value.string s41, Value.string s42, Value.int IntKind.i64 n43, Value.int IntKind.i64 n44, Value.string s45, Value.int IntKind.i64 n46, Value.int IntKind.i64 n47, Value.int IntKind.i64 n48, Value.int IntKind.i64 n49, Value.int IntKind.i64 n50, Value.int IntKind.i64 n51, Value.int IntKind.i64 n52, Value.string s53, Value.string s54, Value.int IntKind.i64 n55, Value.int IntKind.i64 n56, Value.slice p57 k58 k59, Value.int IntKind.i64 n60, Value.int IntKind.i64 n61, Value.int IntKind.i64 n62, Value.int IntKind.i64 n63] (70 : Nat)) w31 fun b64 w65 =>
   R (Ending.returned (Value.slice (some { block := b64, off := (0 : Nat) }) (1 : Nat) (1 : Nat))) w65)
  (
   ∃ n66 : Int,
   ∃ n67 : Int,
   ∃ n68 : Int,
   ∃ n69 : Int,
   ∃ n70 : Int,
   ∃ n71 : Int,
   ∃ n72 : Int,
   ∃ n73 : Int,
   ∃ s74 : ByteArray,
   ∃ s75 : ByteArray,
   ∃ n76 : Int,
   ∃ n77 : Int,
   ∃ s78 : ByteArray,
   ∃ n79 : Int,
   ∃ n80 : Int,
   ∃ n81 : Int,
   ∃ n82 : Int,
   ∃ n83 : Int,
   ∃ n84 : Int,
   ∃ n85 : Int,
   ∃ s86 : ByteArray,
   ∃ s87 : ByteArray,
   ∃ n88 : Int,
   ∃ n89 : Int,
   ∃ p90 : Option Addr,
   ∃ k91 : Nat,
   ∃ k92 : Nat,
   ∃ n93 : Int,
   ∃ n94 : Int,
   ∃ n95 : Int,
   ∃ n96 : Int,
   (
    Row w23 { block := b1, off := (18 : Nat) } (0 : Nat) [Value.int IntKind.i64 n66, Value.int IntKind.i64 n67, Value.int IntKind.i64 n68, Value.int IntKind.i64 n69, Value.int IntKind.i64 n70, Value.int IntKind.i64 n71, Value.int IntKind.i64 n72, Value.int IntKind.i64 n73, Value.string s74, Value.string s75, Value.int IntKind.i64 n76, Value.int IntKind.i64 n77, Value.string s78, Value.int IntKind.i64 n79, Value.int IntKind.i64 n80, Value.int IntKind.i64 n81, Value.int IntKind.i64 n82, Value.int IntKind.i64 n83, Value.int IntKind.i64 n84, Value.int IntKind.i64 n85, Value.string s86, Value.string s87, Value.int IntKind.i64 n88, Value.int IntKind.i64 n89, Value.slice p90 k91 k92, Value.int IntKind.i64 n93, Value.int IntKind.i64 n94, Value.int IntKind.i64 n95, Value.int IntKind.i64 n96]) ∧
   LetA (Obj.cells #[Value.int IntKind.i64 n17, Value.int IntKind.i64 n66, Value.int IntKind.i64 n67, Value.int IntKind.i64 n68, Value.int IntKind.i64 n69, Value.int IntKind.i64 n70, Value.int IntKind.i64 n71, Value.int IntKind.i64 n72, Value.int IntKind.i64 n73, Value.string s74, Value.string s75, Value.int IntKind.i64 n76, Value.int IntKind.i64 n77, Value.string s78, Value.int IntKind.i64 n79, Value.int IntKind.i64 n80, Value.int IntKind.i64 n81, Value.int IntKind.i64 n82, Value.int IntKind.i64 n83, Value.int IntKind.i64 n84, Value.int IntKind.i64 n85, Value.string s86, Value.string s87, Value.int IntKind.i64 n88, Value.int IntKind.i64 n89, Value.slice p90 k91 k92, Value.int IntKind.i64 n93, Value.int IntKind.i64 n94, Value.int IntKind.i64 n95, Value.int IntKind.i64 n96] (70 : Nat)) w23 fun b97 w98 =>
   R (Ending.returned (Value.slice (some { block := b97, off := (0 : Nat) }) (1 : Nat) (1 : Nat))) w98)
theorem ktry_ok (b1 : Nat) (n2 : Int) (w : World) (R : Ending → World → Prop) (h : ktry b1 n2 w R) : Ca Try.prog 73 #[Value.pointer (some { block := b1, off := (0 : Nat) }), Value.int IntKind.i64 n2] w R :=
  Ca.of_fvc (c := bodyOf Try.f73) (by kernel_rfl) Try.func73 (by kernel_rfl) [] (Eq.mp (by kernel_rfl) h)

def kend (b1 : Nat) (n2 : Int) (n3 : Int) (n4 : Int) (s5 : ByteArray) (n6 : Int) (n7 : Int) (w : World) (R : Ending → World → Prop) : Prop :=
 LetA (Obj.cells #[Value.int IntKind.i64 n2, Value.int IntKind.i64 n3, Value.int IntKind.i64 n4, Value.string s5, Value.int IntKind.i64 n6, Value.int IntKind.i64 n7] (80 : Nat)) w fun b8 w9 =>
 (
  Wr w9 { block := b1, off := (47 : Nat) }) ∧
 LetW (w9.setCell { block := b1, off := (47 : Nat) } (Value.int IntKind.i64 (0 : Int))) fun w10 =>
 ∃ p11 : Option Addr,
 (
  w10.cell? { block := b1, off := (17 : Nat) } = some (Value.pointer p11)) ∧
 ∃ n12 : Int,
 ∃ n13 : Int,
 ∃ n14 : Int,
 ∃ s15 : ByteArray,
 ∃ n16 : Int,
 ∃ n17 : Int,
 (
  Row w10 { block := b8, off := (0 : Nat) } (0 : Nat) [Value.int IntKind.i64 n12, Value.int IntKind.i64 n13, Value.int IntKind.i64 n14, Value.string s15, Value.int IntKind.i64 n16, Value.int IntKind.i64 n17]) ∧
 Ca Try.prog (94 : Nat) #[Value.pointer p11, Value.agg #[Value.int IntKind.i64 n12, Value.int IntKind.i64 n13, Value.int IntKind.i64 n14, Value.string s15, Value.int IntKind.i64 n16, Value.int IntKind.i64 n17]] w10 fun e18 w19 =>
 ∃ b20 : Bool,
 (
  e18 = Ending.returned (Value.bool b20)) ∧
 R (Ending.returned (Value.tuple #[])) w19
theorem kend_ok (b1 : Nat) (n2 : Int) (n3 : Int) (n4 : Int) (s5 : ByteArray) (n6 : Int) (n7 : Int) (w : World) (R : Ending → World → Prop) (h : kend b1 n2 n3 n4 s5 n6 n7 w R) : Ca Try.prog 77 #[Value.pointer (some { block := b1, off := (0 : Nat) }), Value.agg #[Value.int IntKind.i64 n2, Value.int IntKind.i64 n3, Value.int IntKind.i64 n4, Value.string s5, Value.int IntKind.i64 n6, Value.int IntKind.i64 n7]] w R :=
  Ca.of_fvc (c := bodyOf Try.f77) (by kernel_rfl) Try.func77 (by kernel_rfl) [] (Eq.mp (by kernel_rfl) h)

def kleave (b1 : Nat) (n2 : Int) (w : World) (R : Ending → World → Prop) : Prop :=
 ∃ b3 : Bool,
 (
  w.cell? { block := b1, off := (49 : Nat) } = some (Value.bool b3)) ∧
 Br (b3)
  (
   Ca Try.prog (77 : Nat) #[Value.pointer (some { block := b1, off := (0 : Nat) }), Value.agg #[Value.int IntKind.i64 (3 : Int), Value.int IntKind.i64 (0 : Int), Value.int IntKind.i64 (0 : Int), Value.string { data := #[] }, Value.int IntKind.i64 (0 : Int), Value.int IntKind.i64 (0 : Int)]] w fun e4 w5 =>
   (
    e4 = Ending.returned (Value.tuple #[])) ∧
   R (Ending.returned (Value.tuple #[])) w5)
  (
   Ca Try.prog (77 : Nat) #[Value.pointer (some { block := b1, off := (0 : Nat) }), Value.agg #[Value.int IntKind.i64 (2 : Int), Value.int IntKind.i64 n2, Value.int IntKind.i64 (0 : Int), Value.string { data := #[] }, Value.int IntKind.i64 (0 : Int), Value.int IntKind.i64 (0 : Int)]] w fun e6 w7 =>
   (
    e6 = Ending.returned (Value.tuple #[])) ∧
   R (Ending.returned (Value.tuple #[])) w7)
theorem kleave_ok (b1 : Nat) (n2 : Int) (w : World) (R : Ending → World → Prop) (h : kleave b1 n2 w R) : Ca Try.prog 81 #[Value.pointer (some { block := b1, off := (0 : Nat) }), Value.int IntKind.i64 n2] w R :=
  Ca.of_fvc (c := bodyOf Try.f81) (by kernel_rfl) Try.func81 (by kernel_rfl) [] (Eq.mp (by kernel_rfl) h)

def kon (b1 : Nat) (n2 : Int) (n3 : Int) (w : World) (R : Ending → World → Prop) : Prop :=
 ∃ n4 : Int,
 (
  w.cell? { block := b1, off := (22 : Nat) } = some (Value.int IntKind.i64 n4)) ∧
 ∃ n5 : Int,
 (
  w.cell? { block := b1, off := (10 : Nat) } = some (Value.int IntKind.i64 n5)) ∧
 Br (decide (n4 > n5))
  (
   Ca Try.prog (81 : Nat) #[Value.pointer (some { block := b1, off := (0 : Nat) }), Value.int IntKind.i64 n2] w fun e6 w7 =>
   (
    e6 = Ending.returned (Value.tuple #[])) ∧
   R (Ending.returned (Value.tuple #[])) w7)
  (
   ∃ n8 : Int,
   (
    w.cell? { block := b1, off := (24 : Nat) } = some (Value.int IntKind.i64 n8)) ∧
   Br (decide (n8 < n3))
    (
     Ca Try.prog (81 : Nat) #[Value.pointer (some { block := b1, off := (0 : Nat) }), Value.int IntKind.i64 n2] w fun e9 w10 =>
     (
      e9 = Ending.returned (Value.tuple #[])) ∧
     R (Ending.returned (Value.tuple #[])) w10)
    (
     ∃ p11 : Option Addr,
     (
      w.cell? { block := b1, off := (16 : Nat) } = some (Value.pointer p11)) ∧
     Ca Try.prog (95 : Nat) #[Value.pointer p11, Value.int IntKind.i64 n3] w fun e12 w13 =>
     ∃ b14 : Bool,
     (
      e12 = Ending.returned (Value.bool b14)) ∧
     Br (!b14)
      (
       Ca Try.prog (81 : Nat) #[Value.pointer (some { block := b1, off := (0 : Nat) }), Value.int IntKind.i64 n2] w13 fun e15 w16 =>
       (
        e15 = Ending.returned (Value.tuple #[])) ∧
       R (Ending.returned (Value.tuple #[])) w16)
      (
       ∃ n17 : Int,
       (
        w13.cell? { block := b1, off := (22 : Nat) } = some (Value.int IntKind.i64 n17)) ∧
       Ca Try.prog (96 : Nat) #[Value.int IntKind.i64 n17, Value.int IntKind.i64 (64 : Int)] w13 fun e18 w19 =>
       ∃ n20 : Int,
       (
        e18 = Ending.returned (Value.int IntKind.i64 n20)) ∧
       LetI (IntKind.i64.wrap (n3 + n20)) fun n21 =>
       (
        Wr w19 { block := b1, off := (47 : Nat) }) ∧
       LetW (w19.setCell { block := b1, off := (47 : Nat) } (Value.int IntKind.i64 (3 : Int))) fun w22 =>
       (
        Wr w22 { block := b1, off := (48 : Nat) }) ∧
       LetW (w22.setCell { block := b1, off := (48 : Nat) } (Value.int IntKind.i64 n21)) fun w23 =>
       R (Ending.returned (Value.tuple #[])) w23)))
theorem kon_ok (b1 : Nat) (n2 : Int) (n3 : Int) (w : World) (R : Ending → World → Prop) (h : kon b1 n2 n3 w R) : Ca Try.prog 79 #[Value.pointer (some { block := b1, off := (0 : Nat) }), Value.int IntKind.i64 n2, Value.int IntKind.i64 n3] w R :=
  Ca.of_fvc (c := bodyOf Try.f79) (by kernel_rfl) Try.func79 (by kernel_rfl) [] (Eq.mp (by kernel_rfl) h)

def kcall (b1 : Nat) (n2 : Int) (s3 : ByteArray) (s4 : ByteArray) (n5 : Int) (n6 : Int) (n7 : Int) (n8 : Int) (w : World) (R : Ending → World → Prop) : Prop :=
 LetA (Obj.cells #[Value.int IntKind.i64 n2, Value.string s3, Value.string s4, Value.int IntKind.i64 n5] (47 : Nat)) w fun b9 w10 =>
 Ca Try.prog (70 : Nat) #[Value.pointer (some { block := b1, off := (0 : Nat) })] w10 fun e11 w12 =>
 ∃ b13 : Bool,
 (
  e11 = Ending.returned (Value.bool b13)) ∧
 Br (b13)
  (
   R (Ending.returned (Value.tuple #[Value.slice none (0 : Nat) (0 : Nat), Value.int IntKind.i64 (1 : Int)])) w12)
  (
   ∃ n14 : Int,
   (
    w12.cell? { block := b1, off := (47 : Nat) } = some (Value.int IntKind.i64 n14)) ∧
   Br (n14 != (0 : Int))
    (
     R (Ending.returned (Value.tuple #[Value.slice none (0 : Nat) (0 : Nat), Value.int IntKind.i64 (63 : Int)])) w12)
    (
     ∃ n15 : Int,
     ∃ s16 : ByteArray,
     ∃ s17 : ByteArray,
     ∃ n18 : Int,
     (
      Row w12 { block := b9, off := (0 : Nat) } (0 : Nat) [Value.int IntKind.i64 n15, Value.string s16, Value.string s17, Value.int IntKind.i64 n18]) ∧
     Ca Try.prog (71 : Nat) #[Value.agg #[Value.int IntKind.i64 n15, Value.string s16, Value.string s17, Value.int IntKind.i64 n18]] w12 fun e19 w20 =>
     ∃ n21 : Int,
     (
      e19 = Ending.returned (Value.int IntKind.i64 n21)) ∧
     Br (n21 != (0 : Int))
      (
       R (Ending.returned (Value.tuple #[Value.slice none (0 : Nat) (0 : Nat), Value.int IntKind.i64 (2 : Int)])) w20)
      (
       Br (decide (n6 < (0 : Int)))
        (
         R (Ending.returned (Value.tuple #[Value.slice none (0 : Nat) (0 : Nat), Value.int IntKind.i64 (2 : Int)])) w20)
        (
         ∃ p22 : Option Addr,
         ∃ k23 : Nat,
         ∃ k24 : Nat,
         (
          w20.cell? { block := b1, off := (3 : Nat) } = some (Value.slice p22 k23 k24)) ∧
         Br (decide (n6 ≥ (↑k23 : Int)))
          (
           R (Ending.returned (Value.tuple #[Value.slice none (0 : Nat) (0 : Nat), Value.int IntKind.i64 (2 : Int)])) w20)
          (
           Br (decide (n7 < (0 : Int)))
            (
             R (Ending.returned (Value.tuple #[Value.slice none (0 : Nat) (0 : Nat), Value.int IntKind.i64 (2 : Int)])) w20)
            (
             Br (decide (n7 > (1099511627776 : Int)))
              (
               R (Ending.returned (Value.tuple #[Value.slice none (0 : Nat) (0 : Nat), Value.int IntKind.i64 (2 : Int)])) w20)
              (
               ∃ n25 : Int,
               (
                w20.cell? { block := b1, off := (12 : Nat) } = some (Value.int IntKind.i64 n25)) ∧
               ∃ n26 : Int,
               (
                w20.cell? { block := b1, off := (21 : Nat) } = some (Value.int IntKind.i64 n26)) ∧
               LetI (IntKind.i64.wrap (n26 + (1 : Int))) fun n27 =>
               ∃ n28 : Int,
               ∃ s29 : ByteArray,
               ∃ s30 : ByteArray,
               ∃ n31 : Int,
               (
                Row w20 { block := b9, off := (0 : Nat) } (0 : Nat) [Value.int IntKind.i64 n28, Value.string s29, Value.string s30, Value.int IntKind.i64 n31]) ∧
               (
                WrRow w20 { block := b1, off := (18 : Nat) } (0 : Nat) [Value.int IntKind.i64 (1 : Int), Value.int IntKind.i64 (0 : Int), Value.int IntKind.i64 n25, Value.int IntKind.i64 n27, Value.int IntKind.i64 (0 : Int), Value.int IntKind.i64 n6, Value.int IntKind.i64 n7, Value.int IntKind.i64 n28, Value.string s29, Value.string s30, Value.int IntKind.i64 n31, Value.int IntKind.i64 (0 : Int), Value.string { data := #[] }, Value.int IntKind.i64 (0 : Int), Value.int IntKind.i64 (0 : Int), Value.int IntKind.i64 (0 : Int), Value.int IntKind.i64 (0 : Int), Value.int IntKind.i64 (0 : Int), Value.int IntKind.i64 (0 : Int), Value.int IntKind.i64 (0 : Int), Value.string { data := #[] }, Value.string { data := #[] }, Value.int IntKind.i64 (0 : Int), Value.int IntKind.i64 (0 : Int), Value.slice none (0 : Nat) (0 : Nat), Value.int IntKind.i64 (0 : Int), Value.int IntKind.i64 (0 : Int), Value.int IntKind.i64 (0 : Int), Value.int IntKind.i64 (0 : Int)]) ∧
               LetW (setRow w20 { block := b1, off := (18 : Nat) } (0 : Nat) [Value.int IntKind.i64 (1 : Int), Value.int IntKind.i64 (0 : Int), Value.int IntKind.i64 n25, Value.int IntKind.i64 n27, Value.int IntKind.i64 (0 : Int), Value.int IntKind.i64 n6, Value.int IntKind.i64 n7, Value.int IntKind.i64 n28, Value.string s29, Value.string s30, Value.int IntKind.i64 n31, Value.int IntKind.i64 (0 : Int), Value.string { data := #[] }, Value.int IntKind.i64 (0 : Int), Value.int IntKind.i64 (0 : Int), Value.int IntKind.i64 (0 : Int), Value.int IntKind.i64 (0 : Int), Value.int IntKind.i64 (0 : Int), Value.int IntKind.i64 (0 : Int), Value.int IntKind.i64 (0 : Int), Value.string { data := #[] }, Value.string { data := #[] }, Value.int IntKind.i64 (0 : Int), Value.int IntKind.i64 (0 : Int), Value.slice none (0 : Nat) (0 : Nat), Value.int IntKind.i64 (0 : Int), Value.int IntKind.i64 (0 : Int), Value.int IntKind.i64 (0 : Int), Value.int IntKind.i64 (0 : Int)]) fun w32 =>
               Ca Try.prog (72 : Nat) #[] w32 fun e33 w34 =>
               ∃ p35 : Option Addr,
               (
                e33 = Ending.returned (Value.pointer p35)) ∧
               (
                Wr w34 { block := b1, off := (49 : Nat) }) ∧
               LetW (w34.setCell { block := b1, off := (49 : Nat) } (Value.bool false)) fun w36 =>
               (
                Wr w36 { block := b1, off := (17 : Nat) }) ∧
               LetW (w36.setCell { block := b1, off := (17 : Nat) } (Value.pointer p35)) fun w37 =>
               ∃ n38 : Int,
               (
                w37.cell? { block := b1, off := (13 : Nat) } = some (Value.int IntKind.i64 n38)) ∧
               Br (decide (n38 > (0 : Int)))
                (
                 Ca Try.prog (74 : Nat) #[Value.int IntKind.i64 n8] w37 fun e39 w40 =>
                 ∃ n41 : Int,
                 (
                  e39 = Ending.returned (Value.int IntKind.i64 n41)) ∧
                 Ca Try.prog (73 : Nat) #[Value.pointer (some { block := b1, off := (0 : Nat) }), Value.int IntKind.i64 n41] w40 fun e42 w43 =>
                 ∃ p44 : Option Addr,
                 ∃ k45 : Nat,
                 ∃ k46 : Nat,
                 (
                  e42 = Ending.returned (Value.slice p44 k45 k46)) ∧
                 R (Ending.returned (Value.tuple #[Value.slice p44 k45 k46, Value.int IntKind.i64 (0 : Int)])) w43)
                (
                 Ca Try.prog (74 : Nat) #[Value.int IntKind.i64 n8] w37 fun e47 w48 =>
                 ∃ n49 : Int,
                 (
                  e47 = Ending.returned (Value.int IntKind.i64 n49)) ∧
                 Ca Try.prog (75 : Nat) #[Value.pointer (some { block := b1, off := (0 : Nat) }), Value.int IntKind.i64 n49] w48 fun e50 w51 =>
                 ∃ p52 : Option Addr,
                 ∃ k53 : Nat,
                 ∃ k54 : Nat,
                 (
                  e50 = Ending.returned (Value.slice p52 k53 k54)) ∧
                 R (Ending.returned (Value.tuple #[Value.slice p52 k53 k54, Value.int IntKind.i64 (0 : Int)])) w51))))))))
theorem kcall_ok (b1 : Nat) (n2 : Int) (s3 : ByteArray) (s4 : ByteArray) (n5 : Int) (n6 : Int) (n7 : Int) (n8 : Int) (w : World) (R : Ending → World → Prop) (h : kcall b1 n2 s3 s4 n5 n6 n7 n8 w R) : Ca Try.prog 38 #[Value.pointer (some { block := b1, off := (0 : Nat) }), Value.agg #[Value.int IntKind.i64 n2, Value.string s3, Value.string s4, Value.int IntKind.i64 n5], Value.int IntKind.i64 n6, Value.int IntKind.i64 n7, Value.int IntKind.i64 n8] w R :=
  Ca.of_fvc (c := bodyOf Try.f38) (by kernel_rfl) Try.func38 (by kernel_rfl) [] (Eq.mp (by kernel_rfl) h)

def kcall0 (n1 : Int) (s2 : ByteArray) (s3 : ByteArray) (n4 : Int) (_n5 : Int) (_n6 : Int) (_n7 : Int) (w : World) (R : Ending → World → Prop) : Prop :=
 LetA (Obj.cells #[Value.int IntKind.i64 n1, Value.string s2, Value.string s3, Value.int IntKind.i64 n4] (47 : Nat)) w fun _b8 w9 =>
 Ca Try.prog (70 : Nat) #[Value.pointer none] w9 fun e10 w11 =>
 ∃ b12 : Bool,
 (
  e10 = Ending.returned (Value.bool b12)) ∧
 Br (b12)
  (
   R (Ending.returned (Value.tuple #[Value.slice none (0 : Nat) (0 : Nat), Value.int IntKind.i64 (1 : Int)])) w11)
  (
   False)
theorem kcall0_ok (n1 : Int) (s2 : ByteArray) (s3 : ByteArray) (n4 : Int) (n5 : Int) (n6 : Int) (n7 : Int) (w : World) (R : Ending → World → Prop) (h : kcall0 n1 s2 s3 n4 n5 n6 n7 w R) : Ca Try.prog 38 #[Value.pointer none, Value.agg #[Value.int IntKind.i64 n1, Value.string s2, Value.string s3, Value.int IntKind.i64 n4], Value.int IntKind.i64 n5, Value.int IntKind.i64 n6, Value.int IntKind.i64 n7] w R :=
  Ca.of_fvc (c := bodyOf Try.f38) (by kernel_rfl) Try.func38 (by kernel_rfl) [] (Eq.mp (by kernel_rfl) h)

def krefused (b1 : Nat) (n2 : Int) (n3 : Int) (n4 : Int) (n5 : Int) (n6 : Int) (n7 : Int) (n8 : Int) (n9 : Int) (s10 : ByteArray) (s11 : ByteArray) (n12 : Int) (n13 : Int) (s14 : ByteArray) (n15 : Int) (n16 : Int) (n17 : Int) (n18 : Int) (n19 : Int) (n20 : Int) (n21 : Int) (s22 : ByteArray) (s23 : ByteArray) (n24 : Int) (n25 : Int) (p26 : Option Addr) (k27 : Nat) (k28 : Nat) (n29 : Int) (n30 : Int) (n31 : Int) (n32 : Int) (n33 : Int) (w : World) (R : Ending → World → Prop) : Prop :=
 LetA (Obj.cells #[Value.int IntKind.i64 n2, Value.int IntKind.i64 n3, Value.int IntKind.i64 n4, Value.int IntKind.i64 n5, Value.int IntKind.i64 n6, Value.int IntKind.i64 n7, Value.int IntKind.i64 n8, Value.int IntKind.i64 n9, Value.string s10, Value.string s11, Value.int IntKind.i64 n12, Value.int IntKind.i64 n13, Value.string s14, Value.int IntKind.i64 n15, Value.int IntKind.i64 n16, Value.int IntKind.i64 n17, Value.int IntKind.i64 n18, Value.int IntKind.i64 n19, Value.int IntKind.i64 n20, Value.int IntKind.i64 n21, Value.string s22, Value.string s23, Value.int IntKind.i64 n24, Value.int IntKind.i64 n25, Value.slice p26 k27 k28, Value.int IntKind.i64 n29, Value.int IntKind.i64 n30, Value.int IntKind.i64 n31, Value.int IntKind.i64 n32] (53 : Nat)) w fun b34 w35 =>
 ∃ n36 : Int,
 (
  w35.cell? { block := b34, off := (15 : Nat) } = some (Value.int IntKind.i64 n36)) ∧
 Br (n36 == (2 : Int))
  (
   Br (n36 == (2 : Int))
    (
     ∃ n37 : Int,
     (
      w35.cell? { block := b34, off := (15 : Nat) } = some (Value.int IntKind.i64 n37)) ∧
     Ca Try.prog (81 : Nat) #[Value.pointer (some { block := b1, off := (0 : Nat) }), Value.int IntKind.i64 n37] w35 fun e38 w39 =>
     (
      e38 = Ending.returned (Value.tuple #[])) ∧
     Ca Try.prog (80 : Nat) #[Value.pointer (some { block := b1, off := (0 : Nat) })] w39 fun e40 w41 =>
     ∃ p42 : Option Addr,
     ∃ k43 : Nat,
     ∃ k44 : Nat,
     (
      e40 = Ending.returned (Value.slice p42 k43 k44)) ∧
     R (Ending.returned (Value.slice p42 k43 k44)) w41)
    (
     Br (n36 == (6 : Int))
      (
       (
        Wr w35 { block := b1, off := (49 : Nat) }) ∧
       LetW (w35.setCell { block := b1, off := (49 : Nat) } (Value.bool true)) fun w45 =>
       ∃ n46 : Int,
       (
        w45.cell? { block := b34, off := (15 : Nat) } = some (Value.int IntKind.i64 n46)) ∧
       Ca Try.prog (79 : Nat) #[Value.pointer (some { block := b1, off := (0 : Nat) }), Value.int IntKind.i64 n46, Value.int IntKind.i64 n33] w45 fun e47 w48 =>
       (
        e47 = Ending.returned (Value.tuple #[])) ∧
       Ca Try.prog (80 : Nat) #[Value.pointer (some { block := b1, off := (0 : Nat) })] w48 fun e49 w50 =>
       ∃ p51 : Option Addr,
       ∃ k52 : Nat,
       ∃ k53 : Nat,
       (
        e49 = Ending.returned (Value.slice p51 k52 k53)) ∧
       R (Ending.returned (Value.slice p51 k52 k53)) w50)
      (
       ∃ n54 : Int,
       (
        w35.cell? { block := b34, off := (15 : Nat) } = some (Value.int IntKind.i64 n54)) ∧
       Ca Try.prog (79 : Nat) #[Value.pointer (some { block := b1, off := (0 : Nat) }), Value.int IntKind.i64 n54, Value.int IntKind.i64 n33] w35 fun e55 w56 =>
       (
        e55 = Ending.returned (Value.tuple #[])) ∧
       Ca Try.prog (80 : Nat) #[Value.pointer (some { block := b1, off := (0 : Nat) })] w56 fun e57 w58 =>
       ∃ p59 : Option Addr,
       ∃ k60 : Nat,
       ∃ k61 : Nat,
       (
        e57 = Ending.returned (Value.slice p59 k60 k61)) ∧
       R (Ending.returned (Value.slice p59 k60 k61)) w58)))
  (
   Br (n36 == (10 : Int))
    (
     ∃ n62 : Int,
     (
      w35.cell? { block := b34, off := (15 : Nat) } = some (Value.int IntKind.i64 n62)) ∧
     Ca Try.prog (81 : Nat) #[Value.pointer (some { block := b1, off := (0 : Nat) }), Value.int IntKind.i64 n62] w35 fun e63 w64 =>
     (
      e63 = Ending.returned (Value.tuple #[])) ∧
     Ca Try.prog (80 : Nat) #[Value.pointer (some { block := b1, off := (0 : Nat) })] w64 fun e65 w66 =>
     ∃ p67 : Option Addr,
     ∃ k68 : Nat,
     ∃ k69 : Nat,
     (
      e65 = Ending.returned (Value.slice p67 k68 k69)) ∧
     R (Ending.returned (Value.slice p67 k68 k69)) w66)
    (
     Br (n36 == (6 : Int))
      (
       (
        Wr w35 { block := b1, off := (49 : Nat) }) ∧
       LetW (w35.setCell { block := b1, off := (49 : Nat) } (Value.bool true)) fun w70 =>
       ∃ n71 : Int,
       (
        w70.cell? { block := b34, off := (15 : Nat) } = some (Value.int IntKind.i64 n71)) ∧
       Ca Try.prog (79 : Nat) #[Value.pointer (some { block := b1, off := (0 : Nat) }), Value.int IntKind.i64 n71, Value.int IntKind.i64 n33] w70 fun e72 w73 =>
       (
        e72 = Ending.returned (Value.tuple #[])) ∧
       Ca Try.prog (80 : Nat) #[Value.pointer (some { block := b1, off := (0 : Nat) })] w73 fun e74 w75 =>
       ∃ p76 : Option Addr,
       ∃ k77 : Nat,
       ∃ k78 : Nat,
       (
        e74 = Ending.returned (Value.slice p76 k77 k78)) ∧
       R (Ending.returned (Value.slice p76 k77 k78)) w75)
      (
       ∃ n79 : Int,
       (
        w35.cell? { block := b34, off := (15 : Nat) } = some (Value.int IntKind.i64 n79)) ∧
       Ca Try.prog (79 : Nat) #[Value.pointer (some { block := b1, off := (0 : Nat) }), Value.int IntKind.i64 n79, Value.int IntKind.i64 n33] w35 fun e80 w81 =>
       (
        e80 = Ending.returned (Value.tuple #[])) ∧
       Ca Try.prog (80 : Nat) #[Value.pointer (some { block := b1, off := (0 : Nat) })] w81 fun e82 w83 =>
       ∃ p84 : Option Addr,
       ∃ k85 : Nat,
       ∃ k86 : Nat,
       (
        e82 = Ending.returned (Value.slice p84 k85 k86)) ∧
       R (Ending.returned (Value.slice p84 k85 k86)) w83)))
theorem krefused_ok (b1 : Nat) (n2 : Int) (n3 : Int) (n4 : Int) (n5 : Int) (n6 : Int) (n7 : Int) (n8 : Int) (n9 : Int) (s10 : ByteArray) (s11 : ByteArray) (n12 : Int) (n13 : Int) (s14 : ByteArray) (n15 : Int) (n16 : Int) (n17 : Int) (n18 : Int) (n19 : Int) (n20 : Int) (n21 : Int) (s22 : ByteArray) (s23 : ByteArray) (n24 : Int) (n25 : Int) (p26 : Option Addr) (k27 : Nat) (k28 : Nat) (n29 : Int) (n30 : Int) (n31 : Int) (n32 : Int) (n33 : Int) (w : World) (R : Ending → World → Prop) (h : krefused b1 n2 n3 n4 n5 n6 n7 n8 n9 s10 s11 n12 n13 s14 n15 n16 n17 n18 n19 n20 n21 s22 s23 n24 n25 p26 k27 k28 n29 n30 n31 n32 n33 w R) : Ca Try.prog 78 #[Value.pointer (some { block := b1, off := (0 : Nat) }), Value.agg #[Value.int IntKind.i64 n2, Value.int IntKind.i64 n3, Value.int IntKind.i64 n4, Value.int IntKind.i64 n5, Value.int IntKind.i64 n6, Value.int IntKind.i64 n7, Value.int IntKind.i64 n8, Value.int IntKind.i64 n9, Value.string s10, Value.string s11, Value.int IntKind.i64 n12, Value.int IntKind.i64 n13, Value.string s14, Value.int IntKind.i64 n15, Value.int IntKind.i64 n16, Value.int IntKind.i64 n17, Value.int IntKind.i64 n18, Value.int IntKind.i64 n19, Value.int IntKind.i64 n20, Value.int IntKind.i64 n21, Value.string s22, Value.string s23, Value.int IntKind.i64 n24, Value.int IntKind.i64 n25, Value.slice p26 k27 k28, Value.int IntKind.i64 n29, Value.int IntKind.i64 n30, Value.int IntKind.i64 n31, Value.int IntKind.i64 n32], Value.int IntKind.i64 n33] w R :=
  Ca.of_fvc (c := bodyOf Try.f78) (by kernel_rfl) Try.func78 (by kernel_rfl) [] (Eq.mp (by kernel_rfl) h)

def kafter (b1 : Nat) (w : World) (R : Ending → World → Prop) : Prop :=
 ∃ n2 : Int,
 (
  w.cell? { block := b1, off := (47 : Nat) } = some (Value.int IntKind.i64 n2)) ∧
 Br (n2 != (0 : Int))
  (
   R (Ending.returned (Value.slice none (0 : Nat) (0 : Nat))) w)
  (
   Ca Try.prog (93 : Nat) #[] w fun e3 w4 =>
   ∃ p5 : Option Addr,
   ∃ k6 : Nat,
   ∃ k7 : Nat,
   (
    e3 = Ending.returned (Value.slice p5 k6 k7)) ∧
   R (Ending.returned (Value.slice p5 k6 k7)) w4)
theorem kafter_ok (b1 : Nat) (w : World) (R : Ending → World → Prop) (h : kafter b1 w R) : Ca Try.prog 80 #[Value.pointer (some { block := b1, off := (0 : Nat) })] w R :=
  Ca.of_fvc (c := bodyOf Try.f80) (by kernel_rfl) Try.func80 (by kernel_rfl) [] (Eq.mp (by kernel_rfl) h)

def ktake0 (n1 : Int) (n2 : Int) (n3 : Int) (n4 : Int) (n5 : Int) (n6 : Int) (n7 : Int) (n8 : Int) (s9 : ByteArray) (s10 : ByteArray) (n11 : Int) (n12 : Int) (s13 : ByteArray) (n14 : Int) (n15 : Int) (n16 : Int) (n17 : Int) (n18 : Int) (n19 : Int) (n20 : Int) (s21 : ByteArray) (s22 : ByteArray) (n23 : Int) (n24 : Int) (p25 : Option Addr) (k26 : Nat) (k27 : Nat) (n28 : Int) (n29 : Int) (n30 : Int) (n31 : Int) (n32 : Int) (w : World) (R : Ending → World → Prop) : Prop :=
 LetA (Obj.cells #[Value.int IntKind.i64 n1, Value.int IntKind.i64 n2, Value.int IntKind.i64 n3, Value.int IntKind.i64 n4, Value.int IntKind.i64 n5, Value.int IntKind.i64 n6, Value.int IntKind.i64 n7, Value.int IntKind.i64 n8, Value.string s9, Value.string s10, Value.int IntKind.i64 n11, Value.int IntKind.i64 n12, Value.string s13, Value.int IntKind.i64 n14, Value.int IntKind.i64 n15, Value.int IntKind.i64 n16, Value.int IntKind.i64 n17, Value.int IntKind.i64 n18, Value.int IntKind.i64 n19, Value.int IntKind.i64 n20, Value.string s21, Value.string s22, Value.int IntKind.i64 n23, Value.int IntKind.i64 n24, Value.slice p25 k26 k27, Value.int IntKind.i64 n28, Value.int IntKind.i64 n29, Value.int IntKind.i64 n30, Value.int IntKind.i64 n31] (53 : Nat)) w fun b33 w34 =>
 Ca Try.prog (70 : Nat) #[Value.pointer none] w34 fun e35 w36 =>
 ∃ b37 : Bool,
 (
  e35 = Ending.returned (Value.bool b37)) ∧
 Br (b37)
  (
   R (Ending.returned (Value.slice none (0 : Nat) (0 : Nat))) w36)
  (
   Ca Try.prog (74 : Nat) #[Value.int IntKind.i64 n32] w36 fun e38 w39 =>
   ∃ n40 : Int,
   (
    e38 = Ending.returned (Value.int IntKind.i64 n40)) ∧
   ∃ n41 : Int,
   (
    w39.cell? { block := b33, off := (2 : Nat) } = some (Value.int IntKind.i64 n41)) ∧
   False)
theorem ktake0_ok (n1 : Int) (n2 : Int) (n3 : Int) (n4 : Int) (n5 : Int) (n6 : Int) (n7 : Int) (n8 : Int) (s9 : ByteArray) (s10 : ByteArray) (n11 : Int) (n12 : Int) (s13 : ByteArray) (n14 : Int) (n15 : Int) (n16 : Int) (n17 : Int) (n18 : Int) (n19 : Int) (n20 : Int) (s21 : ByteArray) (s22 : ByteArray) (n23 : Int) (n24 : Int) (p25 : Option Addr) (k26 : Nat) (k27 : Nat) (n28 : Int) (n29 : Int) (n30 : Int) (n31 : Int) (n32 : Int) (w : World) (R : Ending → World → Prop) (h : ktake0 n1 n2 n3 n4 n5 n6 n7 n8 s9 s10 n11 n12 s13 n14 n15 n16 n17 n18 n19 n20 s21 s22 n23 n24 p25 k26 k27 n28 n29 n30 n31 n32 w R) : Ca Try.prog 40 #[Value.pointer none, Value.agg #[Value.int IntKind.i64 n1, Value.int IntKind.i64 n2, Value.int IntKind.i64 n3, Value.int IntKind.i64 n4, Value.int IntKind.i64 n5, Value.int IntKind.i64 n6, Value.int IntKind.i64 n7, Value.int IntKind.i64 n8, Value.string s9, Value.string s10, Value.int IntKind.i64 n11, Value.int IntKind.i64 n12, Value.string s13, Value.int IntKind.i64 n14, Value.int IntKind.i64 n15, Value.int IntKind.i64 n16, Value.int IntKind.i64 n17, Value.int IntKind.i64 n18, Value.int IntKind.i64 n19, Value.int IntKind.i64 n20, Value.string s21, Value.string s22, Value.int IntKind.i64 n23, Value.int IntKind.i64 n24, Value.slice p25 k26 k27, Value.int IntKind.i64 n28, Value.int IntKind.i64 n29, Value.int IntKind.i64 n30, Value.int IntKind.i64 n31], Value.int IntKind.i64 n32] w R :=
  Ca.of_fvc (c := bodyOf Try.f40) (by kernel_rfl) Try.func40 (by kernel_rfl) [] (Eq.mp (by kernel_rfl) h)

def ktick (b1 : Nat) (n2 : Int) (w : World) (R : Ending → World → Prop) : Prop :=
 Ca Try.prog (70 : Nat) #[Value.pointer (some { block := b1, off := (0 : Nat) })] w fun e3 w4 =>
 ∃ b5 : Bool,
 (
  e3 = Ending.returned (Value.bool b5)) ∧
 Br (b5)
  (
   R (Ending.returned (Value.slice none (0 : Nat) (0 : Nat))) w4)
  (
   Ca Try.prog (74 : Nat) #[Value.int IntKind.i64 n2] w4 fun e6 w7 =>
   ∃ n8 : Int,
   (
    e6 = Ending.returned (Value.int IntKind.i64 n8)) ∧
   ∃ n9 : Int,
   (
    w7.cell? { block := b1, off := (48 : Nat) } = some (Value.int IntKind.i64 n9)) ∧
   LetI (IntKind.i64.wrap (n8 - n9)) fun n10 =>
   ∃ n11 : Int,
   (
    w7.cell? { block := b1, off := (9 : Nat) } = some (Value.int IntKind.i64 n11)) ∧
   ∃ n12 : Int,
   (
    w7.cell? { block := b1, off := (47 : Nat) } = some (Value.int IntKind.i64 n12)) ∧
   Br (n12 == (2 : Int))
    (
     Br (decide (n10 ≥ n11))
      (
       (
        Wr w7 { block := b1, off := (49 : Nat) }) ∧
       LetW (w7.setCell { block := b1, off := (49 : Nat) } (Value.bool true)) fun w13 =>
       Ca Try.prog (79 : Nat) #[Value.pointer (some { block := b1, off := (0 : Nat) }), Value.int IntKind.i64 (0 : Int), Value.int IntKind.i64 n8] w13 fun e14 w15 =>
       (
        e14 = Ending.returned (Value.tuple #[])) ∧
       Ca Try.prog (80 : Nat) #[Value.pointer (some { block := b1, off := (0 : Nat) })] w15 fun e16 w17 =>
       ∃ p18 : Option Addr,
       ∃ k19 : Nat,
       ∃ k20 : Nat,
       (
        e16 = Ending.returned (Value.slice p18 k19 k20)) ∧
       R (Ending.returned (Value.slice p18 k19 k20)) w17)
      (
       ∃ n21 : Int,
       (
        w7.cell? { block := b1, off := (47 : Nat) } = some (Value.int IntKind.i64 n21)) ∧
       Br (n21 == (1 : Int))
        (
         Br (decide (n10 ≥ n11))
          (
           ∃ n22 : Int,
           (
            w7.cell? { block := b1, off := (24 : Nat) } = some (Value.int IntKind.i64 n22)) ∧
           Br (decide (n22 < n8))
            (
             Ca Try.prog (81 : Nat) #[Value.pointer (some { block := b1, off := (0 : Nat) }), Value.int IntKind.i64 (2 : Int)] w7 fun e23 w24 =>
             (
              e23 = Ending.returned (Value.tuple #[])) ∧
             Ca Try.prog (80 : Nat) #[Value.pointer (some { block := b1, off := (0 : Nat) })] w24 fun e25 w26 =>
             ∃ p27 : Option Addr,
             ∃ k28 : Nat,
             ∃ k29 : Nat,
             (
              e25 = Ending.returned (Value.slice p27 k28 k29)) ∧
             R (Ending.returned (Value.slice p27 k28 k29)) w26)
            (
             ∃ n30 : Int,
             (
              w7.cell? { block := b1, off := (47 : Nat) } = some (Value.int IntKind.i64 n30)) ∧
             Br (n30 == (1 : Int))
              (
               Br (decide (n10 ≥ n11))
                (
                 Br (decide (n10 ≥ n11))
                  (
                   Ca Try.prog (75 : Nat) #[Value.pointer (some { block := b1, off := (0 : Nat) }), Value.int IntKind.i64 n8] w7 fun e31 w32 =>
                   ∃ p33 : Option Addr,
                   ∃ k34 : Nat,
                   ∃ k35 : Nat,
                   (
                    e31 = Ending.returned (Value.slice p33 k34 k35)) ∧
                   R (Ending.returned (Value.slice p33 k34 k35)) w32)
                  (
                   R (Ending.returned (Value.slice none (0 : Nat) (0 : Nat))) w7))
                (
                 ∃ n36 : Int,
                 (
                  w7.cell? { block := b1, off := (47 : Nat) } = some (Value.int IntKind.i64 n36)) ∧
                 Br (n36 == (3 : Int))
                  (
                   ∃ n37 : Int,
                   (
                    w7.cell? { block := b1, off := (48 : Nat) } = some (Value.int IntKind.i64 n37)) ∧
                   Br (decide (n8 ≥ n37))
                    (
                     Ca Try.prog (75 : Nat) #[Value.pointer (some { block := b1, off := (0 : Nat) }), Value.int IntKind.i64 n8] w7 fun e38 w39 =>
                     ∃ p40 : Option Addr,
                     ∃ k41 : Nat,
                     ∃ k42 : Nat,
                     (
                      e38 = Ending.returned (Value.slice p40 k41 k42)) ∧
                     R (Ending.returned (Value.slice p40 k41 k42)) w39)
                    (
                     R (Ending.returned (Value.slice none (0 : Nat) (0 : Nat))) w7))
                  (
                   R (Ending.returned (Value.slice none (0 : Nat) (0 : Nat))) w7)))
              (
               ∃ n43 : Int,
               (
                w7.cell? { block := b1, off := (47 : Nat) } = some (Value.int IntKind.i64 n43)) ∧
               Br (n43 == (3 : Int))
                (
                 ∃ n44 : Int,
                 (
                  w7.cell? { block := b1, off := (48 : Nat) } = some (Value.int IntKind.i64 n44)) ∧
                 Br (decide (n8 ≥ n44))
                  (
                   Ca Try.prog (75 : Nat) #[Value.pointer (some { block := b1, off := (0 : Nat) }), Value.int IntKind.i64 n8] w7 fun e45 w46 =>
                   ∃ p47 : Option Addr,
                   ∃ k48 : Nat,
                   ∃ k49 : Nat,
                   (
                    e45 = Ending.returned (Value.slice p47 k48 k49)) ∧
                   R (Ending.returned (Value.slice p47 k48 k49)) w46)
                  (
                   R (Ending.returned (Value.slice none (0 : Nat) (0 : Nat))) w7))
                (
                 R (Ending.returned (Value.slice none (0 : Nat) (0 : Nat))) w7))))
          (
           ∃ n50 : Int,
           (
            w7.cell? { block := b1, off := (47 : Nat) } = some (Value.int IntKind.i64 n50)) ∧
           Br (n50 == (1 : Int))
            (
             Br (decide (n10 ≥ n11))
              (
               Br (decide (n10 ≥ n11))
                (
                 Ca Try.prog (75 : Nat) #[Value.pointer (some { block := b1, off := (0 : Nat) }), Value.int IntKind.i64 n8] w7 fun e51 w52 =>
                 ∃ p53 : Option Addr,
                 ∃ k54 : Nat,
                 ∃ k55 : Nat,
                 (
                  e51 = Ending.returned (Value.slice p53 k54 k55)) ∧
                 R (Ending.returned (Value.slice p53 k54 k55)) w52)
                (
                 R (Ending.returned (Value.slice none (0 : Nat) (0 : Nat))) w7))
              (
               ∃ n56 : Int,
               (
                w7.cell? { block := b1, off := (47 : Nat) } = some (Value.int IntKind.i64 n56)) ∧
               Br (n56 == (3 : Int))
                (
                 ∃ n57 : Int,
                 (
                  w7.cell? { block := b1, off := (48 : Nat) } = some (Value.int IntKind.i64 n57)) ∧
                 Br (decide (n8 ≥ n57))
                  (
                   Ca Try.prog (75 : Nat) #[Value.pointer (some { block := b1, off := (0 : Nat) }), Value.int IntKind.i64 n8] w7 fun e58 w59 =>
                   ∃ p60 : Option Addr,
                   ∃ k61 : Nat,
                   ∃ k62 : Nat,
                   (
                    e58 = Ending.returned (Value.slice p60 k61 k62)) ∧
                   R (Ending.returned (Value.slice p60 k61 k62)) w59)
                  (
                   R (Ending.returned (Value.slice none (0 : Nat) (0 : Nat))) w7))
                (
                 R (Ending.returned (Value.slice none (0 : Nat) (0 : Nat))) w7)))
            (
             ∃ n63 : Int,
             (
              w7.cell? { block := b1, off := (47 : Nat) } = some (Value.int IntKind.i64 n63)) ∧
             Br (n63 == (3 : Int))
              (
               ∃ n64 : Int,
               (
                w7.cell? { block := b1, off := (48 : Nat) } = some (Value.int IntKind.i64 n64)) ∧
               Br (decide (n8 ≥ n64))
                (
                 Ca Try.prog (75 : Nat) #[Value.pointer (some { block := b1, off := (0 : Nat) }), Value.int IntKind.i64 n8] w7 fun e65 w66 =>
                 ∃ p67 : Option Addr,
                 ∃ k68 : Nat,
                 ∃ k69 : Nat,
                 (
                  e65 = Ending.returned (Value.slice p67 k68 k69)) ∧
                 R (Ending.returned (Value.slice p67 k68 k69)) w66)
                (
                 R (Ending.returned (Value.slice none (0 : Nat) (0 : Nat))) w7))
              (
               R (Ending.returned (Value.slice none (0 : Nat) (0 : Nat))) w7))))
        (
         ∃ n70 : Int,
         (
          w7.cell? { block := b1, off := (47 : Nat) } = some (Value.int IntKind.i64 n70)) ∧
         Br (n70 == (1 : Int))
          (
           Br (decide (n10 ≥ n11))
            (
             Br (decide (n10 ≥ n11))
              (
               Ca Try.prog (75 : Nat) #[Value.pointer (some { block := b1, off := (0 : Nat) }), Value.int IntKind.i64 n8] w7 fun e71 w72 =>
               ∃ p73 : Option Addr,
               ∃ k74 : Nat,
               ∃ k75 : Nat,
               (
                e71 = Ending.returned (Value.slice p73 k74 k75)) ∧
               R (Ending.returned (Value.slice p73 k74 k75)) w72)
              (
               R (Ending.returned (Value.slice none (0 : Nat) (0 : Nat))) w7))
            (
             ∃ n76 : Int,
             (
              w7.cell? { block := b1, off := (47 : Nat) } = some (Value.int IntKind.i64 n76)) ∧
             Br (n76 == (3 : Int))
              (
               ∃ n77 : Int,
               (
                w7.cell? { block := b1, off := (48 : Nat) } = some (Value.int IntKind.i64 n77)) ∧
               Br (decide (n8 ≥ n77))
                (
                 Ca Try.prog (75 : Nat) #[Value.pointer (some { block := b1, off := (0 : Nat) }), Value.int IntKind.i64 n8] w7 fun e78 w79 =>
                 ∃ p80 : Option Addr,
                 ∃ k81 : Nat,
                 ∃ k82 : Nat,
                 (
                  e78 = Ending.returned (Value.slice p80 k81 k82)) ∧
                 R (Ending.returned (Value.slice p80 k81 k82)) w79)
                (
                 R (Ending.returned (Value.slice none (0 : Nat) (0 : Nat))) w7))
              (
               R (Ending.returned (Value.slice none (0 : Nat) (0 : Nat))) w7)))
          (
           ∃ n83 : Int,
           (
            w7.cell? { block := b1, off := (47 : Nat) } = some (Value.int IntKind.i64 n83)) ∧
           Br (n83 == (3 : Int))
            (
             ∃ n84 : Int,
             (
              w7.cell? { block := b1, off := (48 : Nat) } = some (Value.int IntKind.i64 n84)) ∧
             Br (decide (n8 ≥ n84))
              (
               Ca Try.prog (75 : Nat) #[Value.pointer (some { block := b1, off := (0 : Nat) }), Value.int IntKind.i64 n8] w7 fun e85 w86 =>
               ∃ p87 : Option Addr,
               ∃ k88 : Nat,
               ∃ k89 : Nat,
               (
                e85 = Ending.returned (Value.slice p87 k88 k89)) ∧
               R (Ending.returned (Value.slice p87 k88 k89)) w86)
              (
               R (Ending.returned (Value.slice none (0 : Nat) (0 : Nat))) w7))
            (
             R (Ending.returned (Value.slice none (0 : Nat) (0 : Nat))) w7)))))
    (
     ∃ n90 : Int,
     (
      w7.cell? { block := b1, off := (47 : Nat) } = some (Value.int IntKind.i64 n90)) ∧
     Br (n90 == (1 : Int))
      (
       Br (decide (n10 ≥ n11))
        (
         ∃ n91 : Int,
         (
          w7.cell? { block := b1, off := (24 : Nat) } = some (Value.int IntKind.i64 n91)) ∧
         Br (decide (n91 < n8))
          (
           Ca Try.prog (81 : Nat) #[Value.pointer (some { block := b1, off := (0 : Nat) }), Value.int IntKind.i64 (2 : Int)] w7 fun e92 w93 =>
           (
            e92 = Ending.returned (Value.tuple #[])) ∧
           Ca Try.prog (80 : Nat) #[Value.pointer (some { block := b1, off := (0 : Nat) })] w93 fun e94 w95 =>
           ∃ p96 : Option Addr,
           ∃ k97 : Nat,
           ∃ k98 : Nat,
           (
            e94 = Ending.returned (Value.slice p96 k97 k98)) ∧
           R (Ending.returned (Value.slice p96 k97 k98)) w95)
          (
           ∃ n99 : Int,
           (
            w7.cell? { block := b1, off := (47 : Nat) } = some (Value.int IntKind.i64 n99)) ∧
           Br (n99 == (1 : Int))
            (
             Br (decide (n10 ≥ n11))
              (
               Br (decide (n10 ≥ n11))
                (
                 Ca Try.prog (75 : Nat) #[Value.pointer (some { block := b1, off := (0 : Nat) }), Value.int IntKind.i64 n8] w7 fun e100 w101 =>
                 ∃ p102 : Option Addr,
                 ∃ k103 : Nat,
                 ∃ k104 : Nat,
                 (
                  e100 = Ending.returned (Value.slice p102 k103 k104)) ∧
                 R (Ending.returned (Value.slice p102 k103 k104)) w101)
                (
                 R (Ending.returned (Value.slice none (0 : Nat) (0 : Nat))) w7))
              (
               ∃ n105 : Int,
               (
                w7.cell? { block := b1, off := (47 : Nat) } = some (Value.int IntKind.i64 n105)) ∧
               Br (n105 == (3 : Int))
                (
                 ∃ n106 : Int,
                 (
                  w7.cell? { block := b1, off := (48 : Nat) } = some (Value.int IntKind.i64 n106)) ∧
                 Br (decide (n8 ≥ n106))
                  (
                   Ca Try.prog (75 : Nat) #[Value.pointer (some { block := b1, off := (0 : Nat) }), Value.int IntKind.i64 n8] w7 fun e107 w108 =>
                   ∃ p109 : Option Addr,
                   ∃ k110 : Nat,
                   ∃ k111 : Nat,
                   (
                    e107 = Ending.returned (Value.slice p109 k110 k111)) ∧
                   R (Ending.returned (Value.slice p109 k110 k111)) w108)
                  (
                   R (Ending.returned (Value.slice none (0 : Nat) (0 : Nat))) w7))
                (
                 R (Ending.returned (Value.slice none (0 : Nat) (0 : Nat))) w7)))
            (
             ∃ n112 : Int,
             (
              w7.cell? { block := b1, off := (47 : Nat) } = some (Value.int IntKind.i64 n112)) ∧
             Br (n112 == (3 : Int))
              (
               ∃ n113 : Int,
               (
                w7.cell? { block := b1, off := (48 : Nat) } = some (Value.int IntKind.i64 n113)) ∧
               Br (decide (n8 ≥ n113))
                (
                 Ca Try.prog (75 : Nat) #[Value.pointer (some { block := b1, off := (0 : Nat) }), Value.int IntKind.i64 n8] w7 fun e114 w115 =>
                 ∃ p116 : Option Addr,
                 ∃ k117 : Nat,
                 ∃ k118 : Nat,
                 (
                  e114 = Ending.returned (Value.slice p116 k117 k118)) ∧
                 R (Ending.returned (Value.slice p116 k117 k118)) w115)
                (
                 R (Ending.returned (Value.slice none (0 : Nat) (0 : Nat))) w7))
              (
               R (Ending.returned (Value.slice none (0 : Nat) (0 : Nat))) w7))))
        (
         ∃ n119 : Int,
         (
          w7.cell? { block := b1, off := (47 : Nat) } = some (Value.int IntKind.i64 n119)) ∧
         Br (n119 == (1 : Int))
          (
           Br (decide (n10 ≥ n11))
            (
             Br (decide (n10 ≥ n11))
              (
               Ca Try.prog (75 : Nat) #[Value.pointer (some { block := b1, off := (0 : Nat) }), Value.int IntKind.i64 n8] w7 fun e120 w121 =>
               ∃ p122 : Option Addr,
               ∃ k123 : Nat,
               ∃ k124 : Nat,
               (
                e120 = Ending.returned (Value.slice p122 k123 k124)) ∧
               R (Ending.returned (Value.slice p122 k123 k124)) w121)
              (
               R (Ending.returned (Value.slice none (0 : Nat) (0 : Nat))) w7))
            (
             ∃ n125 : Int,
             (
              w7.cell? { block := b1, off := (47 : Nat) } = some (Value.int IntKind.i64 n125)) ∧
             Br (n125 == (3 : Int))
              (
               ∃ n126 : Int,
               (
                w7.cell? { block := b1, off := (48 : Nat) } = some (Value.int IntKind.i64 n126)) ∧
               Br (decide (n8 ≥ n126))
                (
                 Ca Try.prog (75 : Nat) #[Value.pointer (some { block := b1, off := (0 : Nat) }), Value.int IntKind.i64 n8] w7 fun e127 w128 =>
                 ∃ p129 : Option Addr,
                 ∃ k130 : Nat,
                 ∃ k131 : Nat,
                 (
                  e127 = Ending.returned (Value.slice p129 k130 k131)) ∧
                 R (Ending.returned (Value.slice p129 k130 k131)) w128)
                (
                 R (Ending.returned (Value.slice none (0 : Nat) (0 : Nat))) w7))
              (
               R (Ending.returned (Value.slice none (0 : Nat) (0 : Nat))) w7)))
          (
           ∃ n132 : Int,
           (
            w7.cell? { block := b1, off := (47 : Nat) } = some (Value.int IntKind.i64 n132)) ∧
           Br (n132 == (3 : Int))
            (
             ∃ n133 : Int,
             (
              w7.cell? { block := b1, off := (48 : Nat) } = some (Value.int IntKind.i64 n133)) ∧
             Br (decide (n8 ≥ n133))
              (
               Ca Try.prog (75 : Nat) #[Value.pointer (some { block := b1, off := (0 : Nat) }), Value.int IntKind.i64 n8] w7 fun e134 w135 =>
               ∃ p136 : Option Addr,
               ∃ k137 : Nat,
               ∃ k138 : Nat,
               (
                e134 = Ending.returned (Value.slice p136 k137 k138)) ∧
               R (Ending.returned (Value.slice p136 k137 k138)) w135)
              (
               R (Ending.returned (Value.slice none (0 : Nat) (0 : Nat))) w7))
            (
             R (Ending.returned (Value.slice none (0 : Nat) (0 : Nat))) w7))))
      (
       ∃ n139 : Int,
       (
        w7.cell? { block := b1, off := (47 : Nat) } = some (Value.int IntKind.i64 n139)) ∧
       Br (n139 == (1 : Int))
        (
         Br (decide (n10 ≥ n11))
          (
           Br (decide (n10 ≥ n11))
            (
             Ca Try.prog (75 : Nat) #[Value.pointer (some { block := b1, off := (0 : Nat) }), Value.int IntKind.i64 n8] w7 fun e140 w141 =>
             ∃ p142 : Option Addr,
             ∃ k143 : Nat,
             ∃ k144 : Nat,
             (
              e140 = Ending.returned (Value.slice p142 k143 k144)) ∧
             R (Ending.returned (Value.slice p142 k143 k144)) w141)
            (
             R (Ending.returned (Value.slice none (0 : Nat) (0 : Nat))) w7))
          (
           ∃ n145 : Int,
           (
            w7.cell? { block := b1, off := (47 : Nat) } = some (Value.int IntKind.i64 n145)) ∧
           Br (n145 == (3 : Int))
            (
             ∃ n146 : Int,
             (
              w7.cell? { block := b1, off := (48 : Nat) } = some (Value.int IntKind.i64 n146)) ∧
             Br (decide (n8 ≥ n146))
              (
               Ca Try.prog (75 : Nat) #[Value.pointer (some { block := b1, off := (0 : Nat) }), Value.int IntKind.i64 n8] w7 fun e147 w148 =>
               ∃ p149 : Option Addr,
               ∃ k150 : Nat,
               ∃ k151 : Nat,
               (
                e147 = Ending.returned (Value.slice p149 k150 k151)) ∧
               R (Ending.returned (Value.slice p149 k150 k151)) w148)
              (
               R (Ending.returned (Value.slice none (0 : Nat) (0 : Nat))) w7))
            (
             R (Ending.returned (Value.slice none (0 : Nat) (0 : Nat))) w7)))
        (
         ∃ n152 : Int,
         (
          w7.cell? { block := b1, off := (47 : Nat) } = some (Value.int IntKind.i64 n152)) ∧
         Br (n152 == (3 : Int))
          (
           ∃ n153 : Int,
           (
            w7.cell? { block := b1, off := (48 : Nat) } = some (Value.int IntKind.i64 n153)) ∧
           Br (decide (n8 ≥ n153))
            (
             Ca Try.prog (75 : Nat) #[Value.pointer (some { block := b1, off := (0 : Nat) }), Value.int IntKind.i64 n8] w7 fun e154 w155 =>
             ∃ p156 : Option Addr,
             ∃ k157 : Nat,
             ∃ k158 : Nat,
             (
              e154 = Ending.returned (Value.slice p156 k157 k158)) ∧
             R (Ending.returned (Value.slice p156 k157 k158)) w155)
            (
             R (Ending.returned (Value.slice none (0 : Nat) (0 : Nat))) w7))
          (
           R (Ending.returned (Value.slice none (0 : Nat) (0 : Nat))) w7)))))
theorem ktick_ok (b1 : Nat) (n2 : Int) (w : World) (R : Ending → World → Prop) (h : ktick b1 n2 w R) : Ca Try.prog 41 #[Value.pointer (some { block := b1, off := (0 : Nat) }), Value.int IntKind.i64 n2] w R :=
  Ca.of_fvc (c := bodyOf Try.f41) (by kernel_rfl) Try.func41 (by kernel_rfl) [] (Eq.mp (by kernel_rfl) h)

def ktick0 (n1 : Int) (w : World) (R : Ending → World → Prop) : Prop :=
 Ca Try.prog (70 : Nat) #[Value.pointer none] w fun e2 w3 =>
 ∃ b4 : Bool,
 (
  e2 = Ending.returned (Value.bool b4)) ∧
 Br (b4)
  (
   R (Ending.returned (Value.slice none (0 : Nat) (0 : Nat))) w3)
  (
   Ca Try.prog (74 : Nat) #[Value.int IntKind.i64 n1] w3 fun e5 _w6 =>
   ∃ n7 : Int,
   (
    e5 = Ending.returned (Value.int IntKind.i64 n7)) ∧
   False)
theorem ktick0_ok (n1 : Int) (w : World) (R : Ending → World → Prop) (h : ktick0 n1 w R) : Ca Try.prog 41 #[Value.pointer none, Value.int IntKind.i64 n1] w R :=
  Ca.of_fvc (c := bodyOf Try.f41) (by kernel_rfl) Try.func41 (by kernel_rfl) [] (Eq.mp (by kernel_rfl) h)

def koutcome (b1 : Nat) (w : World) (R : Ending → World → Prop) : Prop :=
 LetA (Obj.cells #[Value.int IntKind.i64 (0 : Int), Value.int IntKind.i64 (0 : Int), Value.int IntKind.i64 (0 : Int), Value.string { data := #[] }, Value.int IntKind.i64 (0 : Int), Value.int IntKind.i64 (0 : Int)] (80 : Nat)) w fun b2 w3 =>
 Ca Try.prog (70 : Nat) #[Value.pointer (some { block := b1, off := (0 : Nat) })] w3 fun e4 w5 =>
 ∃ b6 : Bool,
 (
  e4 = Ending.returned (Value.bool b6)) ∧
 Br (b6)
  (
   (
    WrRow w5 { block := b2, off := (0 : Nat) } (0 : Nat) [Value.int IntKind.i64 (0 : Int), Value.int IntKind.i64 (0 : Int), Value.int IntKind.i64 (0 : Int), Value.string { data := #[] }, Value.int IntKind.i64 (0 : Int), Value.int IntKind.i64 (0 : Int)]) ∧
   LetW (setRow w5 { block := b2, off := (0 : Nat) } (0 : Nat) [Value.int IntKind.i64 (0 : Int), Value.int IntKind.i64 (0 : Int), Value.int IntKind.i64 (0 : Int), Value.string { data := #[] }, Value.int IntKind.i64 (0 : Int), Value.int IntKind.i64 (0 : Int)]) fun w7 =>
   ∃ n8 : Int,
   ∃ n9 : Int,
   ∃ n10 : Int,
   ∃ s11 : ByteArray,
   ∃ n12 : Int,
   ∃ n13 : Int,
   (
    Row w7 { block := b2, off := (0 : Nat) } (0 : Nat) [Value.int IntKind.i64 n8, Value.int IntKind.i64 n9, Value.int IntKind.i64 n10, Value.string s11, Value.int IntKind.i64 n12, Value.int IntKind.i64 n13]) ∧
   R (Ending.returned (Value.tuple #[Value.agg #[Value.int IntKind.i64 n8, Value.int IntKind.i64 n9, Value.int IntKind.i64 n10, Value.string s11, Value.int IntKind.i64 n12, Value.int IntKind.i64 n13], Value.bool false])) w7)
  (
   ∃ p14 : Option Addr,
   (
    w5.cell? { block := b1, off := (17 : Nat) } = some (Value.pointer p14)) ∧
   Ca Try.prog (76 : Nat) #[Value.pointer p14] w5 fun e15 w16 =>
   ∃ n17 : Int,
   ∃ n18 : Int,
   ∃ n19 : Int,
   ∃ s20 : ByteArray,
   ∃ n21 : Int,
   ∃ n22 : Int,
   ∃ b23 : Bool,
   (
    e15 = Ending.returned (Value.tuple #[Value.agg #[Value.int IntKind.i64 n17, Value.int IntKind.i64 n18, Value.int IntKind.i64 n19, Value.string s20, Value.int IntKind.i64 n21, Value.int IntKind.i64 n22], Value.bool b23])) ∧
   (
    WrRow w16 { block := b2, off := (0 : Nat) } (0 : Nat) [Value.int IntKind.i64 n17, Value.int IntKind.i64 n18, Value.int IntKind.i64 n19, Value.string s20, Value.int IntKind.i64 n21, Value.int IntKind.i64 n22]) ∧
   LetW (setRow w16 { block := b2, off := (0 : Nat) } (0 : Nat) [Value.int IntKind.i64 n17, Value.int IntKind.i64 n18, Value.int IntKind.i64 n19, Value.string s20, Value.int IntKind.i64 n21, Value.int IntKind.i64 n22]) fun w24 =>
   ∃ n25 : Int,
   ∃ n26 : Int,
   ∃ n27 : Int,
   ∃ s28 : ByteArray,
   ∃ n29 : Int,
   ∃ n30 : Int,
   (
    Row w24 { block := b2, off := (0 : Nat) } (0 : Nat) [Value.int IntKind.i64 n25, Value.int IntKind.i64 n26, Value.int IntKind.i64 n27, Value.string s28, Value.int IntKind.i64 n29, Value.int IntKind.i64 n30]) ∧
   R (Ending.returned (Value.tuple #[Value.agg #[Value.int IntKind.i64 n25, Value.int IntKind.i64 n26, Value.int IntKind.i64 n27, Value.string s28, Value.int IntKind.i64 n29, Value.int IntKind.i64 n30], Value.bool b23])) w24)
theorem koutcome_ok (b1 : Nat) (w : World) (R : Ending → World → Prop) (h : koutcome b1 w R) : Ca Try.prog 39 #[Value.pointer (some { block := b1, off := (0 : Nat) })] w R :=
  Ca.of_fvc (c := bodyOf Try.f39) (by kernel_rfl) Try.func39 (by kernel_rfl) [] (Eq.mp (by kernel_rfl) h)

def koutcome0 (w : World) (R : Ending → World → Prop) : Prop :=
 LetA (Obj.cells #[Value.int IntKind.i64 (0 : Int), Value.int IntKind.i64 (0 : Int), Value.int IntKind.i64 (0 : Int), Value.string { data := #[] }, Value.int IntKind.i64 (0 : Int), Value.int IntKind.i64 (0 : Int)] (80 : Nat)) w fun b1 w2 =>
 Ca Try.prog (70 : Nat) #[Value.pointer none] w2 fun e3 w4 =>
 ∃ b5 : Bool,
 (
  e3 = Ending.returned (Value.bool b5)) ∧
 Br (b5)
  (
   (
    WrRow w4 { block := b1, off := (0 : Nat) } (0 : Nat) [Value.int IntKind.i64 (0 : Int), Value.int IntKind.i64 (0 : Int), Value.int IntKind.i64 (0 : Int), Value.string { data := #[] }, Value.int IntKind.i64 (0 : Int), Value.int IntKind.i64 (0 : Int)]) ∧
   LetW (setRow w4 { block := b1, off := (0 : Nat) } (0 : Nat) [Value.int IntKind.i64 (0 : Int), Value.int IntKind.i64 (0 : Int), Value.int IntKind.i64 (0 : Int), Value.string { data := #[] }, Value.int IntKind.i64 (0 : Int), Value.int IntKind.i64 (0 : Int)]) fun w6 =>
   ∃ n7 : Int,
   ∃ n8 : Int,
   ∃ n9 : Int,
   ∃ s10 : ByteArray,
   ∃ n11 : Int,
   ∃ n12 : Int,
   (
    Row w6 { block := b1, off := (0 : Nat) } (0 : Nat) [Value.int IntKind.i64 n7, Value.int IntKind.i64 n8, Value.int IntKind.i64 n9, Value.string s10, Value.int IntKind.i64 n11, Value.int IntKind.i64 n12]) ∧
   R (Ending.returned (Value.tuple #[Value.agg #[Value.int IntKind.i64 n7, Value.int IntKind.i64 n8, Value.int IntKind.i64 n9, Value.string s10, Value.int IntKind.i64 n11, Value.int IntKind.i64 n12], Value.bool false])) w6)
  (
   False)
theorem koutcome0_ok (w : World) (R : Ending → World → Prop) (h : koutcome0  w R) : Ca Try.prog 39 #[Value.pointer none] w R :=
  Ca.of_fvc (c := bodyOf Try.f39) (by kernel_rfl) Try.func39 (by kernel_rfl) [] (Eq.mp (by kernel_rfl) h)

def kbusy (b1 : Nat) (w : World) (R : Ending → World → Prop) : Prop :=
 Ca Try.prog (70 : Nat) #[Value.pointer (some { block := b1, off := (0 : Nat) })] w fun e2 w3 =>
 ∃ b4 : Bool,
 (
  e2 = Ending.returned (Value.bool b4)) ∧
 Br (!b4)
  (
   ∃ n5 : Int,
   (
    w3.cell? { block := b1, off := (47 : Nat) } = some (Value.int IntKind.i64 n5)) ∧
   R (Ending.returned (Value.bool (n5 != (0 : Int)))) w3)
  (
   R (Ending.returned (Value.bool false)) w3)
theorem kbusy_ok (b1 : Nat) (w : World) (R : Ending → World → Prop) (h : kbusy b1 w R) : Ca Try.prog 42 #[Value.pointer (some { block := b1, off := (0 : Nat) })] w R :=
  Ca.of_fvc (c := bodyOf Try.f42) (by kernel_rfl) Try.func42 (by kernel_rfl) [] (Eq.mp (by kernel_rfl) h)

def kbusy0 (w : World) (R : Ending → World → Prop) : Prop :=
 Ca Try.prog (70 : Nat) #[Value.pointer none] w fun e1 w2 =>
 ∃ b3 : Bool,
 (
  e1 = Ending.returned (Value.bool b3)) ∧
 Br (!b3)
  (
   False)
  (
   R (Ending.returned (Value.bool false)) w2)
theorem kbusy0_ok (w : World) (R : Ending → World → Prop) (h : kbusy0  w R) : Ca Try.prog 42 #[Value.pointer none] w R :=
  Ca.of_fvc (c := bodyOf Try.f42) (by kernel_rfl) Try.func42 (by kernel_rfl) [] (Eq.mp (by kernel_rfl) h)

def kseq (b1 : Nat) (w : World) (R : Ending → World → Prop) : Prop :=
 Ca Try.prog (70 : Nat) #[Value.pointer (some { block := b1, off := (0 : Nat) })] w fun e2 w3 =>
 ∃ b4 : Bool,
 (
  e2 = Ending.returned (Value.bool b4)) ∧
 Br (b4)
  (
   R (Ending.returned (Value.int IntKind.i64 (0 : Int))) w3)
  (
   ∃ n5 : Int,
   (
    w3.cell? { block := b1, off := (21 : Nat) } = some (Value.int IntKind.i64 n5)) ∧
   R (Ending.returned (Value.int IntKind.i64 n5)) w3)
theorem kseq_ok (b1 : Nat) (w : World) (R : Ending → World → Prop) (h : kseq b1 w R) : Ca Try.prog 43 #[Value.pointer (some { block := b1, off := (0 : Nat) })] w R :=
  Ca.of_fvc (c := bodyOf Try.f43) (by kernel_rfl) Try.func43 (by kernel_rfl) [] (Eq.mp (by kernel_rfl) h)

def kseq0 (w : World) (R : Ending → World → Prop) : Prop :=
 Ca Try.prog (70 : Nat) #[Value.pointer none] w fun e1 w2 =>
 ∃ b3 : Bool,
 (
  e1 = Ending.returned (Value.bool b3)) ∧
 Br (b3)
  (
   R (Ending.returned (Value.int IntKind.i64 (0 : Int))) w2)
  (
   False)
theorem kseq0_ok (w : World) (R : Ending → World → Prop) (h : kseq0  w R) : Ca Try.prog 43 #[Value.pointer none] w R :=
  Ca.of_fvc (c := bodyOf Try.f43) (by kernel_rfl) Try.func43 (by kernel_rfl) [] (Eq.mp (by kernel_rfl) h)

def ktries (b1 : Nat) (w : World) (R : Ending → World → Prop) : Prop :=
 Ca Try.prog (70 : Nat) #[Value.pointer (some { block := b1, off := (0 : Nat) })] w fun e2 w3 =>
 ∃ b4 : Bool,
 (
  e2 = Ending.returned (Value.bool b4)) ∧
 Br (b4)
  (
   R (Ending.returned (Value.int IntKind.i64 (0 : Int))) w3)
  (
   ∃ n5 : Int,
   (
    w3.cell? { block := b1, off := (22 : Nat) } = some (Value.int IntKind.i64 n5)) ∧
   R (Ending.returned (Value.int IntKind.i64 n5)) w3)
theorem ktries_ok (b1 : Nat) (w : World) (R : Ending → World → Prop) (h : ktries b1 w R) : Ca Try.prog 44 #[Value.pointer (some { block := b1, off := (0 : Nat) })] w R :=
  Ca.of_fvc (c := bodyOf Try.f44) (by kernel_rfl) Try.func44 (by kernel_rfl) [] (Eq.mp (by kernel_rfl) h)

def ktries0 (w : World) (R : Ending → World → Prop) : Prop :=
 Ca Try.prog (70 : Nat) #[Value.pointer none] w fun e1 w2 =>
 ∃ b3 : Bool,
 (
  e1 = Ending.returned (Value.bool b3)) ∧
 Br (b3)
  (
   R (Ending.returned (Value.int IntKind.i64 (0 : Int))) w2)
  (
   False)
theorem ktries0_ok (w : World) (R : Ending → World → Prop) (h : ktries0  w R) : Ca Try.prog 44 #[Value.pointer none] w R :=
  Ca.of_fvc (c := bodyOf Try.f44) (by kernel_rfl) Try.func44 (by kernel_rfl) [] (Eq.mp (by kernel_rfl) h)

def knew (n1 : Int) (n2 : Int) (n3 : Int) (p4 : Option Addr) (k5 : Nat) (k6 : Nat) (n7 : Int) (n8 : Int) (n9 : Int) (n10 : Int) (n11 : Int) (n12 : Int) (n13 : Int) (n14 : Int) (n15 : Int) (w : World) (R : Ending → World → Prop) : Prop :=
 LetA (Obj.cells #[Value.int IntKind.i64 n1, Value.int IntKind.i64 n2, Value.int IntKind.i64 n3, Value.slice p4 k5 k6, Value.int IntKind.i64 n7, Value.int IntKind.i64 n8, Value.int IntKind.i64 n9, Value.int IntKind.i64 n10, Value.int IntKind.i64 n11, Value.int IntKind.i64 n12, Value.int IntKind.i64 n13, Value.int IntKind.i64 n14] (24 : Nat)) w fun b16 w17 =>
 ∃ n18 : Int,
 ∃ n19 : Int,
 ∃ n20 : Int,
 ∃ p21 : Option Addr,
 ∃ k22 : Nat,
 ∃ k23 : Nat,
 ∃ n24 : Int,
 ∃ n25 : Int,
 ∃ n26 : Int,
 ∃ n27 : Int,
 ∃ n28 : Int,
 ∃ n29 : Int,
 ∃ n30 : Int,
 ∃ n31 : Int,
 (
  Row w17 { block := b16, off := (0 : Nat) } (0 : Nat) [Value.int IntKind.i64 n18, Value.int IntKind.i64 n19, Value.int IntKind.i64 n20, Value.slice p21 k22 k23, Value.int IntKind.i64 n24, Value.int IntKind.i64 n25, Value.int IntKind.i64 n26, Value.int IntKind.i64 n27, Value.int IntKind.i64 n28, Value.int IntKind.i64 n29, Value.int IntKind.i64 n30, Value.int IntKind.i64 n31]) ∧
 Ca Try.prog (16 : Nat) #[Value.agg #[Value.int IntKind.i64 n18, Value.int IntKind.i64 n19, Value.int IntKind.i64 n20, Value.slice p21 k22 k23, Value.int IntKind.i64 n24, Value.int IntKind.i64 n25, Value.int IntKind.i64 n26, Value.int IntKind.i64 n27, Value.int IntKind.i64 n28, Value.int IntKind.i64 n29, Value.int IntKind.i64 n30, Value.int IntKind.i64 n31]] w17 fun e32 w33 =>
 ∃ n34 : Int,
 (
  e32 = Ending.returned (Value.int IntKind.i64 n34)) ∧
 Br (n34 != (0 : Int))
  (
   R (Ending.returned (Value.tuple #[Value.pointer none, Value.int IntKind.i64 n34])) w33)
  (
   Br (decide (n15 < (0 : Int)))
    (
     R (Ending.returned (Value.tuple #[Value.pointer none, Value.int IntKind.i64 (2 : Int)])) w33)
    (
     ∃ n35 : Int,
     (
      w33.cell? { block := b16, off := (2 : Nat) } = some (Value.int IntKind.i64 n35)) ∧
     Br (decide (n15 ≥ n35))
      (
       R (Ending.returned (Value.tuple #[Value.pointer none, Value.int IntKind.i64 (2 : Int)])) w33)
      (
       ∃ n36 : Int,
       (
        w33.cell? { block := b16, off := (10 : Nat) } = some (Value.int IntKind.i64 n36)) ∧
       ∃ n37 : Int,
       (
        w33.cell? { block := b16, off := (11 : Nat) } = some (Value.int IntKind.i64 n37)) ∧
       Ca Try.prog (82 : Nat) #[Value.int IntKind.i64 n36, Value.int IntKind.i64 n37] w33 fun e38 w39 =>
       ∃ p40 : Option Addr,
       ∃ n41 : Int,
       (
        e38 = Ending.returned (Value.tuple #[Value.pointer p40, Value.int IntKind.i64 n41])) ∧
       Br (n41 != (0 : Int))
        (
         R (Ending.returned (Value.tuple #[Value.pointer none, Value.int IntKind.i64 n41])) w39)
        (
         ∃ n42 : Int,
         ∃ n43 : Int,
         ∃ n44 : Int,
         ∃ p45 : Option Addr,
         ∃ k46 : Nat,
         ∃ k47 : Nat,
         ∃ n48 : Int,
         ∃ n49 : Int,
         ∃ n50 : Int,
         ∃ n51 : Int,
         ∃ n52 : Int,
         ∃ n53 : Int,
         ∃ n54 : Int,
         ∃ n55 : Int,
         (
          Row w39 { block := b16, off := (0 : Nat) } (0 : Nat) [Value.int IntKind.i64 n42, Value.int IntKind.i64 n43, Value.int IntKind.i64 n44, Value.slice p45 k46 k47, Value.int IntKind.i64 n48, Value.int IntKind.i64 n49, Value.int IntKind.i64 n50, Value.int IntKind.i64 n51, Value.int IntKind.i64 n52, Value.int IntKind.i64 n53, Value.int IntKind.i64 n54, Value.int IntKind.i64 n55]) ∧
         Ca Try.prog (72 : Nat) #[] w39 fun e56 w57 =>
         ∃ p58 : Option Addr,
         (
          e56 = Ending.returned (Value.pointer p58)) ∧
         (
          Row w57 { block := b16, off := (0 : Nat) } (0 : Nat) [Value.int IntKind.i64 n42, Value.int IntKind.i64 n43, Value.int IntKind.i64 n44, Value.slice p45 k46 k47, Value.int IntKind.i64 n48, Value.int IntKind.i64 n49, Value.int IntKind.i64 n50, Value.int IntKind.i64 n51, Value.int IntKind.i64 n52, Value.int IntKind.i64 n53, Value.int IntKind.i64 n54, Value.int IntKind.i64 n55]) ∧
         LetA (Obj.cells #[Value.int IntKind.i64 n42, Value.int IntKind.i64 n43, Value.int IntKind.i64 n44, Value.slice p45 k46 k47, Value.int IntKind.i64 n48, Value.int IntKind.i64 n49, Value.int IntKind.i64 n50, Value.int IntKind.i64 n51, Value.int IntKind.i64 n52, Value.int IntKind.i64 n53, Value.int IntKind.i64 n54, Value.int IntKind.i64 n55, Value.int IntKind.i64 n15, Value.int IntKind.i64 (0 : Int), Value.slice none (0 : Nat) (0 : Nat), Value.int IntKind.i64 (0 : Int), Value.pointer p40, Value.pointer p58, Value.int IntKind.i64 (0 : Int), Value.int IntKind.i64 (0 : Int), Value.int IntKind.i64 (0 : Int), Value.int IntKind.i64 (0 : Int), Value.int IntKind.i64 (0 : Int), Value.int IntKind.i64 (0 : Int), Value.int IntKind.i64 (0 : Int), Value.int IntKind.i64 (0 : Int), Value.string { data := #[] }, Value.string { data := #[] }, Value.int IntKind.i64 (0 : Int), Value.int IntKind.i64 (0 : Int), Value.string { data := #[] }, Value.int IntKind.i64 (0 : Int), Value.int IntKind.i64 (0 : Int), Value.int IntKind.i64 (0 : Int), Value.int IntKind.i64 (0 : Int), Value.int IntKind.i64 (0 : Int), Value.int IntKind.i64 (0 : Int), Value.int IntKind.i64 (0 : Int), Value.string { data := #[] }, Value.string { data := #[] }, Value.int IntKind.i64 (0 : Int), Value.int IntKind.i64 (0 : Int), Value.slice none (0 : Nat) (0 : Nat), Value.int IntKind.i64 (0 : Int), Value.int IntKind.i64 (0 : Int), Value.int IntKind.i64 (0 : Int), Value.int IntKind.i64 (0 : Int), Value.int IntKind.i64 (0 : Int), Value.int IntKind.i64 (0 : Int), Value.bool false] (88 : Nat)) w57 fun b59 w60 =>
         R (Ending.returned (Value.tuple #[Value.pointer (some { block := b59, off := (0 : Nat) }), Value.int IntKind.i64 (0 : Int)])) w60))))
theorem knew_ok (n1 : Int) (n2 : Int) (n3 : Int) (p4 : Option Addr) (k5 : Nat) (k6 : Nat) (n7 : Int) (n8 : Int) (n9 : Int) (n10 : Int) (n11 : Int) (n12 : Int) (n13 : Int) (n14 : Int) (n15 : Int) (w : World) (R : Ending → World → Prop) (h : knew n1 n2 n3 p4 k5 k6 n7 n8 n9 n10 n11 n12 n13 n14 n15 w R) : Ca Try.prog 45 #[Value.agg #[Value.int IntKind.i64 n1, Value.int IntKind.i64 n2, Value.int IntKind.i64 n3, Value.slice p4 k5 k6, Value.int IntKind.i64 n7, Value.int IntKind.i64 n8, Value.int IntKind.i64 n9, Value.int IntKind.i64 n10, Value.int IntKind.i64 n11, Value.int IntKind.i64 n12, Value.int IntKind.i64 n13, Value.int IntKind.i64 n14], Value.int IntKind.i64 n15] w R :=
  Ca.of_fvc (c := bodyOf Try.f45) (by kernel_rfl) Try.func45 (by kernel_rfl) [] (Eq.mp (by kernel_rfl) h)

def rknew (n1 : Int) (n2 : Int) (n3 : Int) (p4 : Option Addr) (k5 : Nat) (k6 : Nat) (n7 : Int) (n8 : Int) (n9 : Int) (n10 : Int) (n11 : Int) (n12 : Int) (n13 : Int) (n14 : Int) (n15 : Int) (w : World) (R : Ending → World → Prop) : Prop :=
 LetA (Obj.cells #[Value.int IntKind.i64 n1, Value.int IntKind.i64 n2, Value.int IntKind.i64 n3, Value.slice p4 k5 k6, Value.int IntKind.i64 n7, Value.int IntKind.i64 n8, Value.int IntKind.i64 n9, Value.int IntKind.i64 n10, Value.int IntKind.i64 n11, Value.int IntKind.i64 n12, Value.int IntKind.i64 n13, Value.int IntKind.i64 n14] (24 : Nat)) w fun b16 w17 =>
 ∃ n18 : Int,
 ∃ n19 : Int,
 ∃ n20 : Int,
 ∃ p21 : Option Addr,
 ∃ k22 : Nat,
 ∃ k23 : Nat,
 ∃ n24 : Int,
 ∃ n25 : Int,
 ∃ n26 : Int,
 ∃ n27 : Int,
 ∃ n28 : Int,
 ∃ n29 : Int,
 ∃ n30 : Int,
 ∃ n31 : Int,
 (
  Row w17 { block := b16, off := (0 : Nat) } (0 : Nat) [Value.int IntKind.i64 n18, Value.int IntKind.i64 n19, Value.int IntKind.i64 n20, Value.slice p21 k22 k23, Value.int IntKind.i64 n24, Value.int IntKind.i64 n25, Value.int IntKind.i64 n26, Value.int IntKind.i64 n27, Value.int IntKind.i64 n28, Value.int IntKind.i64 n29, Value.int IntKind.i64 n30, Value.int IntKind.i64 n31]) ∧
 Ca Try.prog (17 : Nat) #[Value.agg #[Value.int IntKind.i64 n18, Value.int IntKind.i64 n19, Value.int IntKind.i64 n20, Value.slice p21 k22 k23, Value.int IntKind.i64 n24, Value.int IntKind.i64 n25, Value.int IntKind.i64 n26, Value.int IntKind.i64 n27, Value.int IntKind.i64 n28, Value.int IntKind.i64 n29, Value.int IntKind.i64 n30, Value.int IntKind.i64 n31]] w17 fun e32 w33 =>
 ∃ n34 : Int,
 (
  e32 = Ending.returned (Value.int IntKind.i64 n34)) ∧
 Br (n34 != (0 : Int))
  (
   R (Ending.returned (Value.tuple #[Value.pointer none, Value.int IntKind.i64 (2 : Int)])) w33)
  (
   Br (decide (n15 < (0 : Int)))
    (
     R (Ending.returned (Value.tuple #[Value.pointer none, Value.int IntKind.i64 (2 : Int)])) w33)
    (
     ∃ n35 : Int,
     (
      w33.cell? { block := b16, off := (2 : Nat) } = some (Value.int IntKind.i64 n35)) ∧
     Br (decide (n15 ≥ n35))
      (
       R (Ending.returned (Value.tuple #[Value.pointer none, Value.int IntKind.i64 (2 : Int)])) w33)
      (
       ∃ n36 : Int,
       (
        w33.cell? { block := b16, off := (10 : Nat) } = some (Value.int IntKind.i64 n36)) ∧
       ∃ n37 : Int,
       (
        w33.cell? { block := b16, off := (11 : Nat) } = some (Value.int IntKind.i64 n37)) ∧
       Ca Try.prog (83 : Nat) #[Value.int IntKind.i64 n36, Value.int IntKind.i64 n37] w33 fun e38 w39 =>
       ∃ p40 : Option Addr,
       ∃ n41 : Int,
       (
        e38 = Ending.returned (Value.tuple #[Value.pointer p40, Value.int IntKind.i64 n41])) ∧
       Br (n41 != (0 : Int))
        (
         R (Ending.returned (Value.tuple #[Value.pointer none, Value.int IntKind.i64 n41])) w39)
        (
         ∃ n42 : Int,
         ∃ n43 : Int,
         ∃ n44 : Int,
         ∃ p45 : Option Addr,
         ∃ k46 : Nat,
         ∃ k47 : Nat,
         ∃ n48 : Int,
         ∃ n49 : Int,
         ∃ n50 : Int,
         ∃ n51 : Int,
         ∃ n52 : Int,
         ∃ n53 : Int,
         ∃ n54 : Int,
         ∃ n55 : Int,
         (
          Row w39 { block := b16, off := (0 : Nat) } (0 : Nat) [Value.int IntKind.i64 n42, Value.int IntKind.i64 n43, Value.int IntKind.i64 n44, Value.slice p45 k46 k47, Value.int IntKind.i64 n48, Value.int IntKind.i64 n49, Value.int IntKind.i64 n50, Value.int IntKind.i64 n51, Value.int IntKind.i64 n52, Value.int IntKind.i64 n53, Value.int IntKind.i64 n54, Value.int IntKind.i64 n55]) ∧
         LetA (Obj.cells #[Value.int IntKind.i64 n42, Value.int IntKind.i64 n43, Value.int IntKind.i64 n44, Value.slice p45 k46 k47, Value.int IntKind.i64 n48, Value.int IntKind.i64 n49, Value.int IntKind.i64 n50, Value.int IntKind.i64 n51, Value.int IntKind.i64 n52, Value.int IntKind.i64 n53, Value.int IntKind.i64 n54, Value.int IntKind.i64 n55, Value.int IntKind.i64 n15, Value.int IntKind.i64 (0 : Int), Value.slice none (0 : Nat) (0 : Nat), Value.int IntKind.i64 (0 : Int), Value.pointer p40, Value.int IntKind.i64 (0 : Int), Value.int IntKind.i64 (0 : Int), Value.int IntKind.i64 (0 : Int), Value.int IntKind.i64 (0 : Int), Value.int IntKind.i64 (0 : Int), Value.int IntKind.i64 (0 : Int), Value.int IntKind.i64 (0 : Int), Value.int IntKind.i64 (0 : Int), Value.string { data := #[] }, Value.string { data := #[] }, Value.int IntKind.i64 (0 : Int), Value.int IntKind.i64 (0 : Int), Value.string { data := #[] }, Value.int IntKind.i64 (0 : Int), Value.int IntKind.i64 (0 : Int), Value.int IntKind.i64 (0 : Int), Value.int IntKind.i64 (0 : Int), Value.int IntKind.i64 (0 : Int), Value.int IntKind.i64 (0 : Int), Value.int IntKind.i64 (0 : Int), Value.string { data := #[] }, Value.string { data := #[] }, Value.int IntKind.i64 (0 : Int), Value.int IntKind.i64 (0 : Int), Value.slice none (0 : Nat) (0 : Nat), Value.int IntKind.i64 (0 : Int), Value.int IntKind.i64 (0 : Int), Value.int IntKind.i64 (0 : Int), Value.int IntKind.i64 (0 : Int), Value.int IntKind.i64 (0 : Int), Value.int IntKind.i64 (0 : Int), Value.bool false, Value.bool false, Value.int IntKind.i64 (0 : Int), Value.int IntKind.i64 (0 : Int), Value.int IntKind.i64 (0 : Int), Value.string { data := #[] }, Value.int IntKind.i64 (0 : Int), Value.int IntKind.i64 (0 : Int)] (126 : Nat)) w39 fun b56 w57 =>
         R (Ending.returned (Value.tuple #[Value.pointer (some { block := b56, off := (0 : Nat) }), Value.int IntKind.i64 (0 : Int)])) w57))))
theorem rknew_ok (n1 : Int) (n2 : Int) (n3 : Int) (p4 : Option Addr) (k5 : Nat) (k6 : Nat) (n7 : Int) (n8 : Int) (n9 : Int) (n10 : Int) (n11 : Int) (n12 : Int) (n13 : Int) (n14 : Int) (n15 : Int) (w : World) (R : Ending → World → Prop) (h : rknew n1 n2 n3 p4 k5 k6 n7 n8 n9 n10 n11 n12 n13 n14 n15 w R) : Ca Try.prog 46 #[Value.agg #[Value.int IntKind.i64 n1, Value.int IntKind.i64 n2, Value.int IntKind.i64 n3, Value.slice p4 k5 k6, Value.int IntKind.i64 n7, Value.int IntKind.i64 n8, Value.int IntKind.i64 n9, Value.int IntKind.i64 n10, Value.int IntKind.i64 n11, Value.int IntKind.i64 n12, Value.int IntKind.i64 n13, Value.int IntKind.i64 n14], Value.int IntKind.i64 n15] w R :=
  Ca.of_fvc (c := bodyOf Try.f46) (by kernel_rfl) Try.func46 (by kernel_rfl) [] (Eq.mp (by kernel_rfl) h)

def kgreat (p1 : Option Addr) (k2 : Nat) (_k3 : Nat) (n4 : Int) (w : World) (R : Ending → World → Prop) : Prop :=
 ∃ I5 : Nat → List Value → World → Prop,
 (
  ∃ k6 : Nat,
  I5 k6 [Value.bool false, Value.int IntKind.i64 (0 : Int)] w) ∧
 ∀ b7 : Bool,
 ∀ n8 : Int,
 ∀ k9 : Nat,
 ∀ w10 : World,
 (
  I5 k9 [Value.bool b7, Value.int IntKind.i64 n8] w10) →
 Br (decide (n8 < (↑k2 : Int)))
  (
   NilOk p1 fun a11 =>
   (
    (
     (0 : Int) ≤ n8) ∧
    n8 < (↑k2 : Int)) ∧
   ∃ n12 : Int,
   ∃ n13 : Int,
   ∃ n14 : Int,
   ∃ n15 : Int,
   ∃ s16 : ByteArray,
   ∃ s17 : ByteArray,
   ∃ n18 : Int,
   ∃ n19 : Int,
   ∃ n20 : Int,
   ∃ n21 : Int,
   ∃ n22 : Int,
   ∃ n23 : Int,
   ∃ n24 : Int,
   ∃ n25 : Int,
   ∃ n26 : Int,
   ∃ s27 : ByteArray,
   ∃ s28 : ByteArray,
   ∃ n29 : Int,
   ∃ n30 : Int,
   ∃ s31 : ByteArray,
   ∃ n32 : Int,
   ∃ n33 : Int,
   ∃ n34 : Int,
   ∃ n35 : Int,
   ∃ n36 : Int,
   ∃ n37 : Int,
   ∃ n38 : Int,
   ∃ s39 : ByteArray,
   ∃ s40 : ByteArray,
   ∃ n41 : Int,
   ∃ n42 : Int,
   ∃ p43 : Option Addr,
   ∃ k44 : Nat,
   ∃ k45 : Nat,
   ∃ n46 : Int,
   ∃ n47 : Int,
   ∃ n48 : Int,
   ∃ n49 : Int,
   ∃ n50 : Int,
   ∃ n51 : Int,
   ∃ n52 : Int,
   (
    Row w10 (a11.add (n8.toNat * (39 : Nat))) (0 : Nat) [Value.int IntKind.u8 n12, Value.int IntKind.u8 n13, Value.int IntKind.u8 n14, Value.int IntKind.i64 n15, Value.string s16, Value.string s17, Value.int IntKind.i64 n18, Value.int IntKind.i64 n19, Value.int IntKind.i64 n20, Value.int IntKind.i64 n21, Value.int IntKind.i64 n22, Value.int IntKind.i64 n23, Value.int IntKind.i64 n24, Value.int IntKind.i64 n25, Value.int IntKind.i64 n26, Value.string s27, Value.string s28, Value.int IntKind.i64 n29, Value.int IntKind.i64 n30, Value.string s31, Value.int IntKind.i64 n32, Value.int IntKind.i64 n33, Value.int IntKind.i64 n34, Value.int IntKind.i64 n35, Value.int IntKind.i64 n36, Value.int IntKind.i64 n37, Value.int IntKind.i64 n38, Value.string s39, Value.string s40, Value.int IntKind.i64 n41, Value.int IntKind.i64 n42, Value.slice p43 k44 k45, Value.int IntKind.i64 n46, Value.int IntKind.i64 n47, Value.int IntKind.i64 n48, Value.int IntKind.i64 n49, Value.int IntKind.i64 n50, Value.int IntKind.i64 n51, Value.int IntKind.i64 n52]) ∧
   LetA (Obj.cells #[Value.int IntKind.u8 (0 : Int), Value.int IntKind.u8 (0 : Int), Value.int IntKind.u8 (0 : Int), Value.int IntKind.i64 (0 : Int), Value.string { data := #[] }, Value.string { data := #[] }, Value.int IntKind.i64 (0 : Int), Value.int IntKind.i64 (0 : Int), Value.int IntKind.i64 (0 : Int), Value.int IntKind.i64 (0 : Int), Value.int IntKind.i64 (0 : Int), Value.int IntKind.i64 (0 : Int), Value.int IntKind.i64 (0 : Int), Value.int IntKind.i64 (0 : Int), Value.int IntKind.i64 (0 : Int), Value.string { data := #[] }, Value.string { data := #[] }, Value.int IntKind.i64 (0 : Int), Value.int IntKind.i64 (0 : Int), Value.string { data := #[] }, Value.int IntKind.i64 (0 : Int), Value.int IntKind.i64 (0 : Int), Value.int IntKind.i64 (0 : Int), Value.int IntKind.i64 (0 : Int), Value.int IntKind.i64 (0 : Int), Value.int IntKind.i64 (0 : Int), Value.int IntKind.i64 (0 : Int), Value.string { data := #[] }, Value.string { data := #[] }, Value.int IntKind.i64 (0 : Int), Value.int IntKind.i64 (0 : Int), Value.slice none (0 : Nat) (0 : Nat), Value.int IntKind.i64 (0 : Int), Value.int IntKind.i64 (0 : Int), Value.int IntKind.i64 (0 : Int), Value.int IntKind.i64 (0 : Int), Value.int IntKind.i64 (0 : Int), Value.int IntKind.i64 (0 : Int), Value.int IntKind.i64 (0 : Int)] (74 : Nat)) w10 fun b53 w54 =>
   (
    WrRow w54 { block := b53, off := (0 : Nat) } (0 : Nat) [Value.int IntKind.u8 n12, Value.int IntKind.u8 n13, Value.int IntKind.u8 n14, Value.int IntKind.i64 n15, Value.string s16, Value.string s17, Value.int IntKind.i64 n18, Value.int IntKind.i64 n19, Value.int IntKind.i64 n20, Value.int IntKind.i64 n21, Value.int IntKind.i64 n22, Value.int IntKind.i64 n23, Value.int IntKind.i64 n24, Value.int IntKind.i64 n25, Value.int IntKind.i64 n26, Value.string s27, Value.string s28, Value.int IntKind.i64 n29, Value.int IntKind.i64 n30, Value.string s31, Value.int IntKind.i64 n32, Value.int IntKind.i64 n33, Value.int IntKind.i64 n34, Value.int IntKind.i64 n35, Value.int IntKind.i64 n36, Value.int IntKind.i64 n37, Value.int IntKind.i64 n38, Value.string s39, Value.string s40, Value.int IntKind.i64 n41, Value.int IntKind.i64 n42, Value.slice p43 k44 k45, Value.int IntKind.i64 n46, Value.int IntKind.i64 n47, Value.int IntKind.i64 n48, Value.int IntKind.i64 n49, Value.int IntKind.i64 n50, Value.int IntKind.i64 n51, Value.int IntKind.i64 n52]) ∧
   LetW (setRow w54 { block := b53, off := (0 : Nat) } (0 : Nat) [Value.int IntKind.u8 n12, Value.int IntKind.u8 n13, Value.int IntKind.u8 n14, Value.int IntKind.i64 n15, Value.string s16, Value.string s17, Value.int IntKind.i64 n18, Value.int IntKind.i64 n19, Value.int IntKind.i64 n20, Value.int IntKind.i64 n21, Value.int IntKind.i64 n22, Value.int IntKind.i64 n23, Value.int IntKind.i64 n24, Value.int IntKind.i64 n25, Value.int IntKind.i64 n26, Value.string s27, Value.string s28, Value.int IntKind.i64 n29, Value.int IntKind.i64 n30, Value.string s31, Value.int IntKind.i64 n32, Value.int IntKind.i64 n33, Value.int IntKind.i64 n34, Value.int IntKind.i64 n35, Value.int IntKind.i64 n36, Value.int IntKind.i64 n37, Value.int IntKind.i64 n38, Value.string s39, Value.string s40, Value.int IntKind.i64 n41, Value.int IntKind.i64 n42, Value.slice p43 k44 k45, Value.int IntKind.i64 n46, Value.int IntKind.i64 n47, Value.int IntKind.i64 n48, Value.int IntKind.i64 n49, Value.int IntKind.i64 n50, Value.int IntKind.i64 n51, Value.int IntKind.i64 n52]) fun w55 =>
   ∃ s56 : ByteArray,
   (
    w55.cell? { block := b53, off := (4 : Nat) } = some (Value.string s56)) ∧
   Br (decide ((↑s56.size : Int) > (200 : Int)))
    (
     R (Ending.returned (Value.bool true)) w55)
    (
     ∃ s57 : ByteArray,
     (
      w55.cell? { block := b53, off := (5 : Nat) } = some (Value.string s57)) ∧
     Br (decide ((↑s57.size : Int) > (200 : Int)))
      (
       R (Ending.returned (Value.bool true)) w55)
      (
       ∃ s58 : ByteArray,
       (
        w55.cell? { block := b53, off := (15 : Nat) } = some (Value.string s58)) ∧
       Br (decide ((↑s58.size : Int) > (200 : Int)))
        (
         R (Ending.returned (Value.bool true)) w55)
        (
         ∃ s59 : ByteArray,
         (
          w55.cell? { block := b53, off := (16 : Nat) } = some (Value.string s59)) ∧
         Br (decide ((↑s59.size : Int) > (200 : Int)))
          (
           R (Ending.returned (Value.bool true)) w55)
          (
           ∃ s60 : ByteArray,
           (
            w55.cell? { block := b53, off := (19 : Nat) } = some (Value.string s60)) ∧
           Br (decide ((↑s60.size : Int) > (200 : Int)))
            (
             R (Ending.returned (Value.bool true)) w55)
            (
             ∃ p61 : Option Addr,
             ∃ k62 : Nat,
             ∃ k63 : Nat,
             (
              w55.cell? { block := b53, off := (31 : Nat) } = some (Value.slice p61 k62 k63)) ∧
             Br (decide ((↑k62 : Int) > (10 : Int)))
              (
               R (Ending.returned (Value.bool true)) w55)
              (
               LetI (IntKind.i64.wrap (n8 + (1 : Int))) fun n64 =>
               ∃ k65 : Nat,
               (
                k65 < k9) ∧
               I5 k65 [Value.bool b7, Value.int IntKind.i64 n64] w55)))))))
  (
   R (Ending.returned (Value.bool (decide ((↑k2 : Int) > n4)))) w10)
theorem kgreat_ok (p1 : Option Addr) (k2 : Nat) (k3 : Nat) (n4 : Int) (w : World) (R : Ending → World → Prop) (h : kgreat p1 k2 k3 n4 w R) : Ca Try.prog 36 #[Value.slice p1 k2 k3, Value.int IntKind.i64 n4] w R :=
  Ca.of_fvc (c := bodyOf Try.f36) (by kernel_rfl) Try.func36 (by kernel_rfl) [] (Eq.mp (by kernel_rfl) h)

def kto (p1 : Option Addr) (k2 : Nat) (_k3 : Nat) (n4 : Int) (n5 : Int) (w : World) (R : Ending → World → Prop) : Prop :=
 Br ((↑k2 : Int) == (1 : Int))
  (
   NilOk p1 fun a6 =>
   (
    (
     (0 : Int) ≤ (0 : Int)) ∧
    (0 : Int) < (↑k2 : Int)) ∧
   ∃ n7 : Int,
   (
    w.cell? a6 = some (Value.int IntKind.i64 n7)) ∧
   Br (n7 == n4)
    (
     NilOk p1 fun a8 =>
     (
      (
       (0 : Int) ≤ (0 : Int)) ∧
      (0 : Int) < (↑k2 : Int)) ∧
     ∃ n9 : Int,
     (
      w.cell? (a8.add (1 : Nat)) = some (Value.int IntKind.i64 n9)) ∧
     R (Ending.returned (Value.bool (n9 == n5))) w)
    (
     R (Ending.returned (Value.bool false)) w))
  (
   R (Ending.returned (Value.bool false)) w)
theorem kto_ok (p1 : Option Addr) (k2 : Nat) (k3 : Nat) (n4 : Int) (n5 : Int) (w : World) (R : Ending → World → Prop) (h : kto p1 k2 k3 n4 n5 w R) : Ca Try.prog 69 #[Value.slice p1 k2 k3, Value.int IntKind.i64 n4, Value.int IntKind.i64 n5] w R :=
  Ca.of_fvc (c := bodyOf Try.f69) (by kernel_rfl) Try.func69 (by kernel_rfl) [] (Eq.mp (by kernel_rfl) h)

def kcalled (w : World) (R : Ending → World → Prop) : Prop :=
 Ca Try.prog (14 : Nat) #[Value.agg #[Value.int IntKind.i64 (0 : Int), Value.int IntKind.i64 (0 : Int), Value.int IntKind.i64 (0 : Int), Value.slice none (0 : Nat) (0 : Nat), Value.int IntKind.i64 (0 : Int), Value.int IntKind.i64 (0 : Int), Value.int IntKind.i64 (0 : Int), Value.int IntKind.i64 (0 : Int), Value.int IntKind.i64 (0 : Int), Value.int IntKind.i64 (0 : Int), Value.int IntKind.i64 (1 : Int), Value.int IntKind.i64 (0 : Int)]] w fun e1 w2 =>
 ∃ n3 : Int,
 ∃ n4 : Int,
 ∃ n5 : Int,
 ∃ p6 : Option Addr,
 ∃ k7 : Nat,
 ∃ k8 : Nat,
 ∃ n9 : Int,
 ∃ n10 : Int,
 ∃ n11 : Int,
 ∃ n12 : Int,
 ∃ n13 : Int,
 ∃ n14 : Int,
 ∃ n15 : Int,
 ∃ n16 : Int,
 (
  e1 = Ending.returned (Value.agg #[Value.int IntKind.i64 n3, Value.int IntKind.i64 n4, Value.int IntKind.i64 n5, Value.slice p6 k7 k8, Value.int IntKind.i64 n9, Value.int IntKind.i64 n10, Value.int IntKind.i64 n11, Value.int IntKind.i64 n12, Value.int IntKind.i64 n13, Value.int IntKind.i64 n14, Value.int IntKind.i64 n15, Value.int IntKind.i64 n16])) ∧
 LetA (Obj.cells #[Value.int IntKind.i64 (0 : Int), Value.int IntKind.i64 (0 : Int), Value.int IntKind.i64 (0 : Int), Value.slice none (0 : Nat) (0 : Nat), Value.int IntKind.i64 (0 : Int), Value.int IntKind.i64 (0 : Int), Value.int IntKind.i64 (0 : Int), Value.int IntKind.i64 (0 : Int), Value.int IntKind.i64 (0 : Int), Value.int IntKind.i64 (0 : Int), Value.int IntKind.i64 (0 : Int), Value.int IntKind.i64 (0 : Int)] (24 : Nat)) w2 fun b17 w18 =>
 (
  WrRow w18 { block := b17, off := (0 : Nat) } (0 : Nat) [Value.int IntKind.i64 n3, Value.int IntKind.i64 n4, Value.int IntKind.i64 n5, Value.slice p6 k7 k8, Value.int IntKind.i64 n9, Value.int IntKind.i64 n10, Value.int IntKind.i64 n11, Value.int IntKind.i64 n12, Value.int IntKind.i64 n13, Value.int IntKind.i64 n14, Value.int IntKind.i64 n15, Value.int IntKind.i64 n16]) ∧
 LetW (setRow w18 { block := b17, off := (0 : Nat) } (0 : Nat) [Value.int IntKind.i64 n3, Value.int IntKind.i64 n4, Value.int IntKind.i64 n5, Value.slice p6 k7 k8, Value.int IntKind.i64 n9, Value.int IntKind.i64 n10, Value.int IntKind.i64 n11, Value.int IntKind.i64 n12, Value.int IntKind.i64 n13, Value.int IntKind.i64 n14, Value.int IntKind.i64 n15, Value.int IntKind.i64 n16]) fun w19 =>
 ∃ n20 : Int,
 ∃ n21 : Int,
 ∃ n22 : Int,
 ∃ p23 : Option Addr,
 ∃ k24 : Nat,
 ∃ k25 : Nat,
 ∃ n26 : Int,
 ∃ n27 : Int,
 ∃ n28 : Int,
 ∃ n29 : Int,
 ∃ n30 : Int,
 ∃ n31 : Int,
 ∃ n32 : Int,
 ∃ n33 : Int,
 (
  Row w19 { block := b17, off := (0 : Nat) } (0 : Nat) [Value.int IntKind.i64 n20, Value.int IntKind.i64 n21, Value.int IntKind.i64 n22, Value.slice p23 k24 k25, Value.int IntKind.i64 n26, Value.int IntKind.i64 n27, Value.int IntKind.i64 n28, Value.int IntKind.i64 n29, Value.int IntKind.i64 n30, Value.int IntKind.i64 n31, Value.int IntKind.i64 n32, Value.int IntKind.i64 n33]) ∧
 Ca Try.prog (19 : Nat) #[Value.agg #[Value.int IntKind.i64 n20, Value.int IntKind.i64 n21, Value.int IntKind.i64 n22, Value.slice p23 k24 k25, Value.int IntKind.i64 n26, Value.int IntKind.i64 n27, Value.int IntKind.i64 n28, Value.int IntKind.i64 n29, Value.int IntKind.i64 n30, Value.int IntKind.i64 n31, Value.int IntKind.i64 n32, Value.int IntKind.i64 n33]] w19 fun e34 w35 =>
 ∃ n36 : Int,
 ∃ p37 : Option Addr,
 ∃ k38 : Nat,
 ∃ k39 : Nat,
 ∃ n40 : Int,
 ∃ n41 : Int,
 (
  e34 = Ending.returned (Value.tuple #[Value.agg #[Value.int IntKind.i64 n36, Value.slice p37 k38 k39, Value.int IntKind.i64 n40], Value.int IntKind.i64 n41])) ∧
 LetA (Obj.cells #[Value.int IntKind.i64 (0 : Int), Value.slice none (0 : Nat) (0 : Nat), Value.int IntKind.i64 (0 : Int)] (32 : Nat)) w35 fun b42 w43 =>
 (
  WrRow w43 { block := b42, off := (0 : Nat) } (0 : Nat) [Value.int IntKind.i64 n36, Value.slice p37 k38 k39, Value.int IntKind.i64 n40]) ∧
 LetW (setRow w43 { block := b42, off := (0 : Nat) } (0 : Nat) [Value.int IntKind.i64 n36, Value.slice p37 k38 k39, Value.int IntKind.i64 n40]) fun w44 =>
 ∃ n45 : Int,
 ∃ n46 : Int,
 ∃ n47 : Int,
 ∃ p48 : Option Addr,
 ∃ k49 : Nat,
 ∃ k50 : Nat,
 ∃ n51 : Int,
 ∃ n52 : Int,
 ∃ n53 : Int,
 ∃ n54 : Int,
 ∃ n55 : Int,
 ∃ n56 : Int,
 ∃ n57 : Int,
 ∃ n58 : Int,
 (
  Row w44 { block := b17, off := (0 : Nat) } (0 : Nat) [Value.int IntKind.i64 n45, Value.int IntKind.i64 n46, Value.int IntKind.i64 n47, Value.slice p48 k49 k50, Value.int IntKind.i64 n51, Value.int IntKind.i64 n52, Value.int IntKind.i64 n53, Value.int IntKind.i64 n54, Value.int IntKind.i64 n55, Value.int IntKind.i64 n56, Value.int IntKind.i64 n57, Value.int IntKind.i64 n58]) ∧
 Ca Try.prog (45 : Nat) #[Value.agg #[Value.int IntKind.i64 n45, Value.int IntKind.i64 n46, Value.int IntKind.i64 n47, Value.slice p48 k49 k50, Value.int IntKind.i64 n51, Value.int IntKind.i64 n52, Value.int IntKind.i64 n53, Value.int IntKind.i64 n54, Value.int IntKind.i64 n55, Value.int IntKind.i64 n56, Value.int IntKind.i64 n57, Value.int IntKind.i64 n58], Value.int IntKind.i64 (0 : Int)] w44 fun e59 w60 =>
 ∃ p61 : Option Addr,
 ∃ n62 : Int,
 (
  e59 = Ending.returned (Value.tuple #[Value.pointer p61, Value.int IntKind.i64 n62])) ∧
 Br (n62 != (0 : Int))
  (
   R (Ending.returned (Value.bool false)) w60)
  (
   Ca Try.prog (38 : Nat) #[Value.pointer p61, Value.agg #[Value.int IntKind.i64 (2 : Int), Value.string { data := #[(107 : UInt8)] }, Value.string { data := #[(118 : UInt8)] }, Value.int IntKind.i64 (0 : Int)], Value.int IntKind.i64 (0 : Int), Value.int IntKind.i64 (100 : Int), Value.int IntKind.i64 (0 : Int)] w60 fun e63 w64 =>
   ∃ p65 : Option Addr,
   ∃ k66 : Nat,
   ∃ k67 : Nat,
   ∃ n68 : Int,
   (
    e63 = Ending.returned (Value.tuple #[Value.slice p65 k66 k67, Value.int IntKind.i64 n68])) ∧
   ∃ n69 : Int,
   ∃ p70 : Option Addr,
   ∃ k71 : Nat,
   ∃ k72 : Nat,
   ∃ n73 : Int,
   (
    Row w64 { block := b42, off := (0 : Nat) } (0 : Nat) [Value.int IntKind.i64 n69, Value.slice p70 k71 k72, Value.int IntKind.i64 n73]) ∧
   Ca Try.prog (40 : Nat) #[Value.pointer p61, Value.agg #[Value.int IntKind.i64 (8 : Int), Value.int IntKind.i64 (0 : Int), Value.int IntKind.i64 (0 : Int), Value.int IntKind.i64 (0 : Int), Value.int IntKind.i64 (0 : Int), Value.int IntKind.i64 (0 : Int), Value.int IntKind.i64 (0 : Int), Value.int IntKind.i64 (0 : Int), Value.string { data := #[] }, Value.string { data := #[] }, Value.int IntKind.i64 (0 : Int), Value.int IntKind.i64 (0 : Int), Value.string { data := #[] }, Value.int IntKind.i64 (0 : Int), Value.int IntKind.i64 (0 : Int), Value.int IntKind.i64 (0 : Int), Value.int IntKind.i64 (0 : Int), Value.int IntKind.i64 (0 : Int), Value.int IntKind.i64 (0 : Int), Value.int IntKind.i64 (0 : Int), Value.string { data := #[] }, Value.string { data := #[] }, Value.int IntKind.i64 (0 : Int), Value.int IntKind.i64 n69, Value.slice p70 k71 k72, Value.int IntKind.i64 n73, Value.int IntKind.i64 (0 : Int), Value.int IntKind.i64 (0 : Int), Value.int IntKind.i64 (0 : Int)], Value.int IntKind.i64 (0 : Int)] w64 fun e74 w75 =>
   ∃ p76 : Option Addr,
   ∃ k77 : Nat,
   ∃ k78 : Nat,
   (
    e74 = Ending.returned (Value.slice p76 k77 k78)) ∧
   Br (n68 != (0 : Int))
    (
     R (Ending.returned (Value.bool false)) w75)
    (
     Ca Try.prog (69 : Nat) #[Value.slice p65 k66 k67, Value.int IntKind.i64 (16 : Int), Value.int IntKind.i64 (7 : Int)] w75 fun e79 w80 =>
     ∃ b81 : Bool,
     (
      e79 = Ending.returned (Value.bool b81)) ∧
     Br (!b81)
      (
       R (Ending.returned (Value.bool false)) w80)
      (
       Ca Try.prog (69 : Nat) #[Value.slice p76 k77 k78, Value.int IntKind.i64 (0 : Int), Value.int IntKind.i64 (1 : Int)] w80 fun e82 w83 =>
       ∃ b84 : Bool,
       (
        e82 = Ending.returned (Value.bool b84)) ∧
       Br (!b84)
        (
         R (Ending.returned (Value.bool false)) w83)
        (
         NilOk p76 fun a85 =>
         (
          (
           (0 : Int) ≤ (0 : Int)) ∧
          (0 : Int) < (↑k77 : Int)) ∧
         ∃ n86 : Int,
         (
          w83.cell? ((a85.add (1 : Nat)).add (4 : Nat)) = some (Value.int IntKind.i64 n86)) ∧
         Br (n86 != (1 : Int))
          (
           R (Ending.returned (Value.bool false)) w83)
          (
           Ca Try.prog (41 : Nat) #[Value.pointer p61, Value.int IntKind.i64 (3 : Int)] w83 fun e87 w88 =>
           ∃ p89 : Option Addr,
           ∃ k90 : Nat,
           ∃ k91 : Nat,
           (
            e87 = Ending.returned (Value.slice p89 k90 k91)) ∧
           Br ((↑k90 : Int) != (0 : Int))
            (
             R (Ending.returned (Value.bool false)) w88)
            (
             Ca Try.prog (40 : Nat) #[Value.pointer p61, Value.agg #[Value.int IntKind.i64 (3 : Int), Value.int IntKind.i64 (0 : Int), Value.int IntKind.i64 (0 : Int), Value.int IntKind.i64 (1 : Int), Value.int IntKind.i64 (1 : Int), Value.int IntKind.i64 (0 : Int), Value.int IntKind.i64 (0 : Int), Value.int IntKind.i64 (0 : Int), Value.string { data := #[] }, Value.string { data := #[] }, Value.int IntKind.i64 (0 : Int), Value.int IntKind.i64 (0 : Int), Value.string { data := #[] }, Value.int IntKind.i64 (0 : Int), Value.int IntKind.i64 (0 : Int), Value.int IntKind.i64 (1 : Int), Value.int IntKind.i64 (0 : Int), Value.int IntKind.i64 (0 : Int), Value.int IntKind.i64 (0 : Int), Value.int IntKind.i64 (0 : Int), Value.string { data := #[] }, Value.string { data := #[] }, Value.int IntKind.i64 (0 : Int), Value.int IntKind.i64 (0 : Int), Value.slice none (0 : Nat) (0 : Nat), Value.int IntKind.i64 (0 : Int), Value.int IntKind.i64 (0 : Int), Value.int IntKind.i64 (0 : Int), Value.int IntKind.i64 (0 : Int)], Value.int IntKind.i64 (3 : Int)] w88 fun e92 w93 =>
             ∃ p94 : Option Addr,
             ∃ k95 : Nat,
             ∃ k96 : Nat,
             (
              e92 = Ending.returned (Value.slice p94 k95 k96)) ∧
             Br ((↑k95 : Int) != (0 : Int))
              (
               R (Ending.returned (Value.bool false)) w93)
              (
               Ca Try.prog (41 : Nat) #[Value.pointer p61, Value.int IntKind.i64 (3 : Int)] w93 fun e97 w98 =>
               ∃ p99 : Option Addr,
               ∃ k100 : Nat,
               ∃ k101 : Nat,
               (
                e97 = Ending.returned (Value.slice p99 k100 k101)) ∧
               Br ((↑k100 : Int) != (0 : Int))
                (
                 R (Ending.returned (Value.bool false)) w98)
                (
                 Ca Try.prog (41 : Nat) #[Value.pointer p61, Value.int IntKind.i64 (4 : Int)] w98 fun e102 w103 =>
                 ∃ p104 : Option Addr,
                 ∃ k105 : Nat,
                 ∃ k106 : Nat,
                 (
                  e102 = Ending.returned (Value.slice p104 k105 k106)) ∧
                 ∃ n107 : Int,
                 ∃ p108 : Option Addr,
                 ∃ k109 : Nat,
                 ∃ k110 : Nat,
                 ∃ n111 : Int,
                 (
                  Row w103 { block := b42, off := (0 : Nat) } (0 : Nat) [Value.int IntKind.i64 n107, Value.slice p108 k109 k110, Value.int IntKind.i64 n111]) ∧
                 Ca Try.prog (40 : Nat) #[Value.pointer p61, Value.agg #[Value.int IntKind.i64 (8 : Int), Value.int IntKind.i64 (0 : Int), Value.int IntKind.i64 (0 : Int), Value.int IntKind.i64 (0 : Int), Value.int IntKind.i64 (0 : Int), Value.int IntKind.i64 (0 : Int), Value.int IntKind.i64 (0 : Int), Value.int IntKind.i64 (0 : Int), Value.string { data := #[] }, Value.string { data := #[] }, Value.int IntKind.i64 (0 : Int), Value.int IntKind.i64 (0 : Int), Value.string { data := #[] }, Value.int IntKind.i64 (0 : Int), Value.int IntKind.i64 (0 : Int), Value.int IntKind.i64 (0 : Int), Value.int IntKind.i64 (0 : Int), Value.int IntKind.i64 (0 : Int), Value.int IntKind.i64 (0 : Int), Value.int IntKind.i64 (0 : Int), Value.string { data := #[] }, Value.string { data := #[] }, Value.int IntKind.i64 (0 : Int), Value.int IntKind.i64 n107, Value.slice p108 k109 k110, Value.int IntKind.i64 n111, Value.int IntKind.i64 (0 : Int), Value.int IntKind.i64 (0 : Int), Value.int IntKind.i64 (0 : Int)], Value.int IntKind.i64 (4 : Int)] w103 fun e112 w113 =>
                 ∃ p114 : Option Addr,
                 ∃ k115 : Nat,
                 ∃ k116 : Nat,
                 (
                  e112 = Ending.returned (Value.slice p114 k115 k116)) ∧
                 Ca Try.prog (40 : Nat) #[Value.pointer p61, Value.agg #[Value.int IntKind.i64 (3 : Int), Value.int IntKind.i64 (0 : Int), Value.int IntKind.i64 (0 : Int), Value.int IntKind.i64 (1 : Int), Value.int IntKind.i64 (2 : Int), Value.int IntKind.i64 (0 : Int), Value.int IntKind.i64 (0 : Int), Value.int IntKind.i64 (0 : Int), Value.string { data := #[] }, Value.string { data := #[] }, Value.int IntKind.i64 (0 : Int), Value.int IntKind.i64 (0 : Int), Value.string { data := #[] }, Value.int IntKind.i64 (0 : Int), Value.int IntKind.i64 (0 : Int), Value.int IntKind.i64 (1 : Int), Value.int IntKind.i64 (0 : Int), Value.int IntKind.i64 (0 : Int), Value.int IntKind.i64 (0 : Int), Value.int IntKind.i64 (0 : Int), Value.string { data := #[] }, Value.string { data := #[] }, Value.int IntKind.i64 (0 : Int), Value.int IntKind.i64 (0 : Int), Value.slice none (0 : Nat) (0 : Nat), Value.int IntKind.i64 (0 : Int), Value.int IntKind.i64 (0 : Int), Value.int IntKind.i64 (0 : Int), Value.int IntKind.i64 (0 : Int)], Value.int IntKind.i64 (4 : Int)] w113 fun e117 w118 =>
                 ∃ p119 : Option Addr,
                 ∃ k120 : Nat,
                 ∃ k121 : Nat,
                 (
                  e117 = Ending.returned (Value.slice p119 k120 k121)) ∧
                 Ca Try.prog (39 : Nat) #[Value.pointer p61] w118 fun e122 w123 =>
                 ∃ n124 : Int,
                 ∃ n125 : Int,
                 ∃ n126 : Int,
                 ∃ s127 : ByteArray,
                 ∃ n128 : Int,
                 ∃ n129 : Int,
                 ∃ b130 : Bool,
                 (
                  e122 = Ending.returned (Value.tuple #[Value.agg #[Value.int IntKind.i64 n124, Value.int IntKind.i64 n125, Value.int IntKind.i64 n126, Value.string s127, Value.int IntKind.i64 n128, Value.int IntKind.i64 n129], Value.bool b130])) ∧
                 LetA (Obj.cells #[Value.int IntKind.i64 (0 : Int), Value.int IntKind.i64 (0 : Int), Value.int IntKind.i64 (0 : Int), Value.string { data := #[] }, Value.int IntKind.i64 (0 : Int), Value.int IntKind.i64 (0 : Int)] (80 : Nat)) w123 fun b131 w132 =>
                 (
                  WrRow w132 { block := b131, off := (0 : Nat) } (0 : Nat) [Value.int IntKind.i64 n124, Value.int IntKind.i64 n125, Value.int IntKind.i64 n126, Value.string s127, Value.int IntKind.i64 n128, Value.int IntKind.i64 n129]) ∧
                 LetW (setRow w132 { block := b131, off := (0 : Nat) } (0 : Nat) [Value.int IntKind.i64 n124, Value.int IntKind.i64 n125, Value.int IntKind.i64 n126, Value.string s127, Value.int IntKind.i64 n128, Value.int IntKind.i64 n129]) fun w133 =>
                 Ca Try.prog (69 : Nat) #[Value.slice p104 k105 k106, Value.int IntKind.i64 (16 : Int), Value.int IntKind.i64 (7 : Int)] w133 fun e134 w135 =>
                 ∃ b136 : Bool,
                 (
                  e134 = Ending.returned (Value.bool b136)) ∧
                 Br (b136)
                  (
                   Ca Try.prog (69 : Nat) #[Value.slice p114 k115 k116, Value.int IntKind.i64 (0 : Int), Value.int IntKind.i64 (1 : Int)] w135 fun e137 w138 =>
                   ∃ b139 : Bool,
                   (
                    e137 = Ending.returned (Value.bool b139)) ∧
                   Br (b139)
                    (
                     NilOk p114 fun a140 =>
                     (
                      (
                       (0 : Int) ≤ (0 : Int)) ∧
                      (0 : Int) < (↑k115 : Int)) ∧
                     ∃ n141 : Int,
                     (
                      w138.cell? ((a140.add (1 : Nat)).add (4 : Nat)) = some (Value.int IntKind.i64 n141)) ∧
                     Br (n141 == (2 : Int))
                      (
                       Ca Try.prog (69 : Nat) #[Value.slice p119 k120 k121, Value.int IntKind.i64 (16 : Int), Value.int IntKind.i64 (7 : Int)] w138 fun e142 w143 =>
                       ∃ b144 : Bool,
                       (
                        e142 = Ending.returned (Value.bool b144)) ∧
                       Br (b144)
                        (
                         Br (b130)
                          (
                           ∃ n145 : Int,
                           (
                            w143.cell? { block := b131, off := (0 : Nat) } = some (Value.int IntKind.i64 n145)) ∧
                           Br (n145 == (2 : Int))
                            (
                             ∃ n146 : Int,
                             (
                              w143.cell? { block := b131, off := (1 : Nat) } = some (Value.int IntKind.i64 n146)) ∧
                             Br (n146 == (1 : Int))
                              (
                               Ca Try.prog (42 : Nat) #[Value.pointer p61] w143 fun e147 w148 =>
                               ∃ b149 : Bool,
                               (
                                e147 = Ending.returned (Value.bool b149)) ∧
                               R (Ending.returned (Value.bool !b149)) w148)
                              (
                               R (Ending.returned (Value.bool false)) w143))
                            (
                             R (Ending.returned (Value.bool false)) w143))
                          (
                           R (Ending.returned (Value.bool false)) w143))
                        (
                         R (Ending.returned (Value.bool false)) w143))
                      (
                       R (Ending.returned (Value.bool false)) w138))
                    (
                     R (Ending.returned (Value.bool false)) w138))
                  (
                   R (Ending.returned (Value.bool false)) w135)))))))))
theorem kcalled_ok (w : World) (R : Ending → World → Prop) (h : kcalled  w R) : Ca Try.prog 37 #[] w R :=
  Ca.of_fvc (c := bodyOf Try.f37) (by kernel_rfl) Try.func37 (by kernel_rfl) [] (Eq.mp (by kernel_rfl) h)

end Go.Proofs.Ytljipmhkpnigkaa
