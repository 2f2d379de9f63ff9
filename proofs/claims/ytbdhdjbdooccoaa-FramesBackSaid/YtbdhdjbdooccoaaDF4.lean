/- The verification conditions of this seat's functions, printed by a program; the kernel holds each against the loaded code. -/
import Derived.Test.YtbdhdjbdooccoaaProg
import Derived.KernelRfl
import Derived.Test.YtbdhdjbdooccoaaV5
set_option maxRecDepth 100000
namespace Go.Proofs.Ytbdhdjbdooccoaa
open Go Go.Vc Go.Proofs
def lawFGet (s1 : ByteArray) (w : World) (R : Ending → World → Prop) : Prop :=
 Br (decide ((↑s1.size : Int) > (700 : Int)))
  (
   Ca Try.prog (44 : Nat) #[] w fun e2 w3 =>
   ∃ b4 : Bool,
   (
    e2 = Ending.returned (Value.bool b4)) ∧
   R (Ending.returned (Value.bool b4)) w3)
  (
   Ca Try.prog (45 : Nat) #[Value.string s1] w fun e5 w6 =>
   ∃ n7 : Int,
   ∃ n8 : Int,
   ∃ n9 : Int,
   ∃ n10 : Int,
   ∃ n11 : Int,
   ∃ n12 : Int,
   ∃ n13 : Int,
   ∃ n14 : Int,
   ∃ s15 : ByteArray,
   ∃ s16 : ByteArray,
   ∃ n17 : Int,
   ∃ n18 : Int,
   ∃ s19 : ByteArray,
   ∃ n20 : Int,
   ∃ n21 : Int,
   ∃ n22 : Int,
   ∃ n23 : Int,
   ∃ n24 : Int,
   ∃ n25 : Int,
   ∃ n26 : Int,
   ∃ s27 : ByteArray,
   ∃ s28 : ByteArray,
   ∃ n29 : Int,
   ∃ n30 : Int,
   ∃ p31 : Option Addr,
   ∃ k32 : Nat,
   ∃ k33 : Nat,
   ∃ n34 : Int,
   ∃ n35 : Int,
   ∃ n36 : Int,
   ∃ n37 : Int,
   ∃ n38 : Int,
   (
    e5 = Ending.returned (Value.tuple #[Value.agg #[Value.int IntKind.i64 n7, Value.int IntKind.i64 n8, Value.int IntKind.i64 n9, Value.int IntKind.i64 n10, Value.int IntKind.i64 n11, Value.int IntKind.i64 n12, Value.int IntKind.i64 n13, Value.int IntKind.i64 n14, Value.string s15, Value.string s16, Value.int IntKind.i64 n17, Value.int IntKind.i64 n18, Value.string s19, Value.int IntKind.i64 n20, Value.int IntKind.i64 n21, Value.int IntKind.i64 n22, Value.int IntKind.i64 n23, Value.int IntKind.i64 n24, Value.int IntKind.i64 n25, Value.int IntKind.i64 n26, Value.string s27, Value.string s28, Value.int IntKind.i64 n29, Value.int IntKind.i64 n30, Value.slice p31 k32 k33, Value.int IntKind.i64 n34, Value.int IntKind.i64 n35, Value.int IntKind.i64 n36, Value.int IntKind.i64 n37], Value.int IntKind.i64 n38])) ∧
   LetA (Obj.cells #[Value.int IntKind.i64 (0 : Int), Value.int IntKind.i64 (0 : Int), Value.int IntKind.i64 (0 : Int), Value.int IntKind.i64 (0 : Int), Value.int IntKind.i64 (0 : Int), Value.int IntKind.i64 (0 : Int), Value.int IntKind.i64 (0 : Int), Value.int IntKind.i64 (0 : Int), Value.string { data := #[] }, Value.string { data := #[] }, Value.int IntKind.i64 (0 : Int), Value.int IntKind.i64 (0 : Int), Value.string { data := #[] }, Value.int IntKind.i64 (0 : Int), Value.int IntKind.i64 (0 : Int), Value.int IntKind.i64 (0 : Int), Value.int IntKind.i64 (0 : Int), Value.int IntKind.i64 (0 : Int), Value.int IntKind.i64 (0 : Int), Value.int IntKind.i64 (0 : Int), Value.string { data := #[] }, Value.string { data := #[] }, Value.int IntKind.i64 (0 : Int), Value.int IntKind.i64 (0 : Int), Value.slice none (0 : Nat) (0 : Nat), Value.int IntKind.i64 (0 : Int), Value.int IntKind.i64 (0 : Int), Value.int IntKind.i64 (0 : Int), Value.int IntKind.i64 (0 : Int)] (58 : Nat)) w6 fun b39 w40 =>
   (
    WrRow w40 { block := b39, off := (0 : Nat) } (0 : Nat) [Value.int IntKind.i64 n7, Value.int IntKind.i64 n8, Value.int IntKind.i64 n9, Value.int IntKind.i64 n10, Value.int IntKind.i64 n11, Value.int IntKind.i64 n12, Value.int IntKind.i64 n13, Value.int IntKind.i64 n14, Value.string s15, Value.string s16, Value.int IntKind.i64 n17, Value.int IntKind.i64 n18, Value.string s19, Value.int IntKind.i64 n20, Value.int IntKind.i64 n21, Value.int IntKind.i64 n22, Value.int IntKind.i64 n23, Value.int IntKind.i64 n24, Value.int IntKind.i64 n25, Value.int IntKind.i64 n26, Value.string s27, Value.string s28, Value.int IntKind.i64 n29, Value.int IntKind.i64 n30, Value.slice p31 k32 k33, Value.int IntKind.i64 n34, Value.int IntKind.i64 n35, Value.int IntKind.i64 n36, Value.int IntKind.i64 n37]) ∧
   LetW (setRow w40 { block := b39, off := (0 : Nat) } (0 : Nat) [Value.int IntKind.i64 n7, Value.int IntKind.i64 n8, Value.int IntKind.i64 n9, Value.int IntKind.i64 n10, Value.int IntKind.i64 n11, Value.int IntKind.i64 n12, Value.int IntKind.i64 n13, Value.int IntKind.i64 n14, Value.string s15, Value.string s16, Value.int IntKind.i64 n17, Value.int IntKind.i64 n18, Value.string s19, Value.int IntKind.i64 n20, Value.int IntKind.i64 n21, Value.int IntKind.i64 n22, Value.int IntKind.i64 n23, Value.int IntKind.i64 n24, Value.int IntKind.i64 n25, Value.int IntKind.i64 n26, Value.string s27, Value.string s28, Value.int IntKind.i64 n29, Value.int IntKind.i64 n30, Value.slice p31 k32 k33, Value.int IntKind.i64 n34, Value.int IntKind.i64 n35, Value.int IntKind.i64 n36, Value.int IntKind.i64 n37]) fun w41 =>
   Ca Try.prog (46 : Nat) #[Value.string s1] w41 fun e42 w43 =>
   ∃ n44 : Int,
   ∃ n45 : Int,
   ∃ n46 : Int,
   ∃ n47 : Int,
   ∃ n48 : Int,
   ∃ n49 : Int,
   ∃ n50 : Int,
   ∃ n51 : Int,
   ∃ s52 : ByteArray,
   ∃ s53 : ByteArray,
   ∃ n54 : Int,
   ∃ n55 : Int,
   ∃ s56 : ByteArray,
   ∃ n57 : Int,
   ∃ n58 : Int,
   ∃ n59 : Int,
   ∃ n60 : Int,
   ∃ n61 : Int,
   ∃ n62 : Int,
   ∃ n63 : Int,
   ∃ s64 : ByteArray,
   ∃ s65 : ByteArray,
   ∃ n66 : Int,
   ∃ n67 : Int,
   ∃ p68 : Option Addr,
   ∃ k69 : Nat,
   ∃ k70 : Nat,
   ∃ n71 : Int,
   ∃ n72 : Int,
   ∃ n73 : Int,
   ∃ n74 : Int,
   ∃ n75 : Int,
   (
    e42 = Ending.returned (Value.tuple #[Value.agg #[Value.int IntKind.i64 n44, Value.int IntKind.i64 n45, Value.int IntKind.i64 n46, Value.int IntKind.i64 n47, Value.int IntKind.i64 n48, Value.int IntKind.i64 n49, Value.int IntKind.i64 n50, Value.int IntKind.i64 n51, Value.string s52, Value.string s53, Value.int IntKind.i64 n54, Value.int IntKind.i64 n55, Value.string s56, Value.int IntKind.i64 n57, Value.int IntKind.i64 n58, Value.int IntKind.i64 n59, Value.int IntKind.i64 n60, Value.int IntKind.i64 n61, Value.int IntKind.i64 n62, Value.int IntKind.i64 n63, Value.string s64, Value.string s65, Value.int IntKind.i64 n66, Value.int IntKind.i64 n67, Value.slice p68 k69 k70, Value.int IntKind.i64 n71, Value.int IntKind.i64 n72, Value.int IntKind.i64 n73, Value.int IntKind.i64 n74], Value.int IntKind.i64 n75])) ∧
   LetA (Obj.cells #[Value.int IntKind.i64 (0 : Int), Value.int IntKind.i64 (0 : Int), Value.int IntKind.i64 (0 : Int), Value.int IntKind.i64 (0 : Int), Value.int IntKind.i64 (0 : Int), Value.int IntKind.i64 (0 : Int), Value.int IntKind.i64 (0 : Int), Value.int IntKind.i64 (0 : Int), Value.string { data := #[] }, Value.string { data := #[] }, Value.int IntKind.i64 (0 : Int), Value.int IntKind.i64 (0 : Int), Value.string { data := #[] }, Value.int IntKind.i64 (0 : Int), Value.int IntKind.i64 (0 : Int), Value.int IntKind.i64 (0 : Int), Value.int IntKind.i64 (0 : Int), Value.int IntKind.i64 (0 : Int), Value.int IntKind.i64 (0 : Int), Value.int IntKind.i64 (0 : Int), Value.string { data := #[] }, Value.string { data := #[] }, Value.int IntKind.i64 (0 : Int), Value.int IntKind.i64 (0 : Int), Value.slice none (0 : Nat) (0 : Nat), Value.int IntKind.i64 (0 : Int), Value.int IntKind.i64 (0 : Int), Value.int IntKind.i64 (0 : Int), Value.int IntKind.i64 (0 : Int)] (58 : Nat)) w43 fun b76 w77 =>
   (
    WrRow w77 { block := b76, off := (0 : Nat) } (0 : Nat) [Value.int IntKind.i64 n44, Value.int IntKind.i64 n45, Value.int IntKind.i64 n46, Value.int IntKind.i64 n47, Value.int IntKind.i64 n48, Value.int IntKind.i64 n49, Value.int IntKind.i64 n50, Value.int IntKind.i64 n51, Value.string s52, Value.string s53, Value.int IntKind.i64 n54, Value.int IntKind.i64 n55, Value.string s56, Value.int IntKind.i64 n57, Value.int IntKind.i64 n58, Value.int IntKind.i64 n59, Value.int IntKind.i64 n60, Value.int IntKind.i64 n61, Value.int IntKind.i64 n62, Value.int IntKind.i64 n63, Value.string s64, Value.string s65, Value.int IntKind.i64 n66, Value.int IntKind.i64 n67, Value.slice p68 k69 k70, Value.int IntKind.i64 n71, Value.int IntKind.i64 n72, Value.int IntKind.i64 n73, Value.int IntKind.i64 n74]) ∧
   LetW (setRow w77 { block := b76, off := (0 : Nat) } (0 : Nat) [Value.int IntKind.i64 n44, Value.int IntKind.i64 n45, Value.int IntKind.i64 n46, Value.int IntKind.i64 n47, Value.int IntKind.i64 n48, Value.int IntKind.i64 n49, Value.int IntKind.i64 n50, Value.int IntKind.i64 n51, Value.string s52, Value.string s53, Value.int IntKind.i64 n54, Value.int IntKind.i64 n55, Value.string s56, Value.int IntKind.i64 n57, Value.int IntKind.i64 n58, Value.int IntKind.i64 n59, Value.int IntKind.i64 n60, Value.int IntKind.i64 n61, Value.int IntKind.i64 n62, Value.int IntKind.i64 n63, Value.string s64, Value.string s65, Value.int IntKind.i64 n66, Value.int IntKind.i64 n67, Value.slice p68 k69 k70, Value.int IntKind.i64 n71, Value.int IntKind.i64 n72, Value.int IntKind.i64 n73, Value.int IntKind.i64 n74]) fun w78 =>
   ∃ n79 : Int,
   ∃ n80 : Int,
   ∃ n81 : Int,
   ∃ n82 : Int,
   ∃ n83 : Int,
   ∃ n84 : Int,
   ∃ n85 : Int,
   ∃ n86 : Int,
   ∃ s87 : ByteArray,
   ∃ s88 : ByteArray,
   ∃ n89 : Int,
   ∃ n90 : Int,
   ∃ s91 : ByteArray,
   ∃ n92 : Int,
   ∃ n93 : Int,
   ∃ n94 : Int,
   ∃ n95 : Int,
   ∃ n96 : Int,
   ∃ n97 : Int,
   ∃ n98 : Int,
   ∃ s99 : ByteArray,
   ∃ s100 : ByteArray,
   ∃ n101 : Int,
   ∃ n102 : Int,
   ∃ p103 : Option Addr,
   ∃ k104 : Nat,
   ∃ k105 : Nat,
   ∃ n106 : Int,
   ∃ n107 : Int,
   ∃ n108 : Int,
   ∃ n109 : Int,
   (
    Row w78 { block := b39, off := (0 : Nat) } (0 : Nat) [Value.int IntKind.i64 n79, Value.int IntKind.i64 n80, Value.int IntKind.i64 n81, Value.int IntKind.i64 n82, Value.int IntKind.i64 n83, Value.int IntKind.i64 n84, Value.int IntKind.i64 n85, Value.int IntKind.i64 n86, Value.string s87, Value.string s88, Value.int IntKind.i64 n89, Value.int IntKind.i64 n90, Value.string s91, Value.int IntKind.i64 n92, Value.int IntKind.i64 n93, Value.int IntKind.i64 n94, Value.int IntKind.i64 n95, Value.int IntKind.i64 n96, Value.int IntKind.i64 n97, Value.int IntKind.i64 n98, Value.string s99, Value.string s100, Value.int IntKind.i64 n101, Value.int IntKind.i64 n102, Value.slice p103 k104 k105, Value.int IntKind.i64 n106, Value.int IntKind.i64 n107, Value.int IntKind.i64 n108, Value.int IntKind.i64 n109]) ∧
   ∃ n110 : Int,
   ∃ n111 : Int,
   ∃ n112 : Int,
   ∃ n113 : Int,
   ∃ n114 : Int,
   ∃ n115 : Int,
   ∃ n116 : Int,
   ∃ n117 : Int,
   ∃ s118 : ByteArray,
   ∃ s119 : ByteArray,
   ∃ n120 : Int,
   ∃ n121 : Int,
   ∃ s122 : ByteArray,
   ∃ n123 : Int,
   ∃ n124 : Int,
   ∃ n125 : Int,
   ∃ n126 : Int,
   ∃ n127 : Int,
   ∃ n128 : Int,
   ∃ n129 : Int,
   ∃ s130 : ByteArray,
   ∃ s131 : ByteArray,
   ∃ n132 : Int,
   ∃ n133 : Int,
   ∃ p134 : Option Addr,
   ∃ k135 : Nat,
   ∃ k136 : Nat,
   ∃ n137 : Int,
   ∃ n138 : Int,
   ∃ n139 : Int,
   ∃ n140 : Int,
   (
    Row w78 { block := b76, off := (0 : Nat) } (0 : Nat) [Value.int IntKind.i64 n110, Value.int IntKind.i64 n111, Value.int IntKind.i64 n112, Value.int IntKind.i64 n113, Value.int IntKind.i64 n114, Value.int IntKind.i64 n115, Value.int IntKind.i64 n116, Value.int IntKind.i64 n117, Value.string s118, Value.string s119, Value.int IntKind.i64 n120, Value.int IntKind.i64 n121, Value.string s122, Value.int IntKind.i64 n123, Value.int IntKind.i64 n124, Value.int IntKind.i64 n125, Value.int IntKind.i64 n126, Value.int IntKind.i64 n127, Value.int IntKind.i64 n128, Value.int IntKind.i64 n129, Value.string s130, Value.string s131, Value.int IntKind.i64 n132, Value.int IntKind.i64 n133, Value.slice p134 k135 k136, Value.int IntKind.i64 n137, Value.int IntKind.i64 n138, Value.int IntKind.i64 n139, Value.int IntKind.i64 n140]) ∧
   Ca Try.prog (47 : Nat) #[Value.agg #[Value.int IntKind.i64 n79, Value.int IntKind.i64 n80, Value.int IntKind.i64 n81, Value.int IntKind.i64 n82, Value.int IntKind.i64 n83, Value.int IntKind.i64 n84, Value.int IntKind.i64 n85, Value.int IntKind.i64 n86, Value.string s87, Value.string s88, Value.int IntKind.i64 n89, Value.int IntKind.i64 n90, Value.string s91, Value.int IntKind.i64 n92, Value.int IntKind.i64 n93, Value.int IntKind.i64 n94, Value.int IntKind.i64 n95, Value.int IntKind.i64 n96, Value.int IntKind.i64 n97, Value.int IntKind.i64 n98, Value.string s99, Value.string s100, Value.int IntKind.i64 n101, Value.int IntKind.i64 n102, Value.slice p103 k104 k105, Value.int IntKind.i64 n106, Value.int IntKind.i64 n107, Value.int IntKind.i64 n108, Value.int IntKind.i64 n109], Value.agg #[Value.int IntKind.i64 n110, Value.int IntKind.i64 n111, Value.int IntKind.i64 n112, Value.int IntKind.i64 n113, Value.int IntKind.i64 n114, Value.int IntKind.i64 n115, Value.int IntKind.i64 n116, Value.int IntKind.i64 n117, Value.string s118, Value.string s119, Value.int IntKind.i64 n120, Value.int IntKind.i64 n121, Value.string s122, Value.int IntKind.i64 n123, Value.int IntKind.i64 n124, Value.int IntKind.i64 n125, Value.int IntKind.i64 n126, Value.int IntKind.i64 n127, Value.int IntKind.i64 n128, Value.int IntKind.i64 n129, Value.string s130, Value.string s131, Value.int IntKind.i64 n132, Value.int IntKind.i64 n133, Value.slice p134 k135 k136, Value.int IntKind.i64 n137, Value.int IntKind.i64 n138, Value.int IntKind.i64 n139, Value.int IntKind.i64 n140]] w78 fun e141 w142 =>
   ∃ b143 : Bool,
   (
    e141 = Ending.returned (Value.bool b143)) ∧
   Br (b143)
    (
     Br (n38 == n75)
      (
       Ca Try.prog (44 : Nat) #[] w142 fun e144 w145 =>
       ∃ b146 : Bool,
       (
        e144 = Ending.returned (Value.bool b146)) ∧
       R (Ending.returned (Value.bool b146)) w145)
      (
       R (Ending.returned (Value.bool false)) w142))
    (
     R (Ending.returned (Value.bool false)) w142))
theorem lawFGet_ok (s1 : ByteArray) (w : World) (R : Ending → World → Prop) (h : lawFGet s1 w R) : Ca Try.prog 11 #[Value.string s1] w R :=
  Ca.of_fvc (c := bodyOf Try.f11) (by kernel_rfl) Try.func11 (by kernel_rfl) [] (Eq.mp (by kernel_rfl) h)

def lawFBack (n1 : Int) (n2 : Int) (n3 : Int) (n4 : Int) (n5 : Int) (n6 : Int) (n7 : Int) (n8 : Int) (s9 : ByteArray) (s10 : ByteArray) (n11 : Int) (n12 : Int) (s13 : ByteArray) (n14 : Int) (n15 : Int) (n16 : Int) (n17 : Int) (n18 : Int) (n19 : Int) (n20 : Int) (s21 : ByteArray) (s22 : ByteArray) (n23 : Int) (n24 : Int) (p25 : Option Addr) (k26 : Nat) (k27 : Nat) (n28 : Int) (n29 : Int) (n30 : Int) (n31 : Int) (n32 : Int) (w : World) (R : Ending → World → Prop) : Prop :=
 LetA (Obj.cells #[Value.int IntKind.i64 n1, Value.int IntKind.i64 n2, Value.int IntKind.i64 n3, Value.int IntKind.i64 n4, Value.int IntKind.i64 n5, Value.int IntKind.i64 n6, Value.int IntKind.i64 n7, Value.int IntKind.i64 n8, Value.string s9, Value.string s10, Value.int IntKind.i64 n11, Value.int IntKind.i64 n12, Value.string s13, Value.int IntKind.i64 n14, Value.int IntKind.i64 n15, Value.int IntKind.i64 n16, Value.int IntKind.i64 n17, Value.int IntKind.i64 n18, Value.int IntKind.i64 n19, Value.int IntKind.i64 n20, Value.string s21, Value.string s22, Value.int IntKind.i64 n23, Value.int IntKind.i64 n24, Value.slice p25 k26 k27, Value.int IntKind.i64 n28, Value.int IntKind.i64 n29, Value.int IntKind.i64 n30, Value.int IntKind.i64 n31] (58 : Nat)) w fun b33 w34 =>
 ∃ n35 : Int,
 ∃ n36 : Int,
 ∃ n37 : Int,
 ∃ n38 : Int,
 ∃ n39 : Int,
 ∃ n40 : Int,
 ∃ n41 : Int,
 ∃ n42 : Int,
 ∃ s43 : ByteArray,
 ∃ s44 : ByteArray,
 ∃ n45 : Int,
 ∃ n46 : Int,
 ∃ s47 : ByteArray,
 ∃ n48 : Int,
 ∃ n49 : Int,
 ∃ n50 : Int,
 ∃ n51 : Int,
 ∃ n52 : Int,
 ∃ n53 : Int,
 ∃ n54 : Int,
 ∃ s55 : ByteArray,
 ∃ s56 : ByteArray,
 ∃ n57 : Int,
 ∃ n58 : Int,
 ∃ p59 : Option Addr,
 ∃ k60 : Nat,
 ∃ k61 : Nat,
 ∃ n62 : Int,
 ∃ n63 : Int,
 ∃ n64 : Int,
 ∃ n65 : Int,
 (
  Row w34 { block := b33, off := (0 : Nat) } (0 : Nat) [Value.int IntKind.i64 n35, Value.int IntKind.i64 n36, Value.int IntKind.i64 n37, Value.int IntKind.i64 n38, Value.int IntKind.i64 n39, Value.int IntKind.i64 n40, Value.int IntKind.i64 n41, Value.int IntKind.i64 n42, Value.string s43, Value.string s44, Value.int IntKind.i64 n45, Value.int IntKind.i64 n46, Value.string s47, Value.int IntKind.i64 n48, Value.int IntKind.i64 n49, Value.int IntKind.i64 n50, Value.int IntKind.i64 n51, Value.int IntKind.i64 n52, Value.int IntKind.i64 n53, Value.int IntKind.i64 n54, Value.string s55, Value.string s56, Value.int IntKind.i64 n57, Value.int IntKind.i64 n58, Value.slice p59 k60 k61, Value.int IntKind.i64 n62, Value.int IntKind.i64 n63, Value.int IntKind.i64 n64, Value.int IntKind.i64 n65]) ∧
 Ca Try.prog (48 : Nat) #[Value.agg #[Value.int IntKind.i64 n35, Value.int IntKind.i64 n36, Value.int IntKind.i64 n37, Value.int IntKind.i64 n38, Value.int IntKind.i64 n39, Value.int IntKind.i64 n40, Value.int IntKind.i64 n41, Value.int IntKind.i64 n42, Value.string s43, Value.string s44, Value.int IntKind.i64 n45, Value.int IntKind.i64 n46, Value.string s47, Value.int IntKind.i64 n48, Value.int IntKind.i64 n49, Value.int IntKind.i64 n50, Value.int IntKind.i64 n51, Value.int IntKind.i64 n52, Value.int IntKind.i64 n53, Value.int IntKind.i64 n54, Value.string s55, Value.string s56, Value.int IntKind.i64 n57, Value.int IntKind.i64 n58, Value.slice p59 k60 k61, Value.int IntKind.i64 n62, Value.int IntKind.i64 n63, Value.int IntKind.i64 n64, Value.int IntKind.i64 n65]] w34 fun e66 w67 =>
 ∃ b68 : Bool,
 (
  e66 = Ending.returned (Value.bool b68)) ∧
 Br (b68)
  (
   Ca Try.prog (44 : Nat) #[] w67 fun e69 w70 =>
   ∃ b71 : Bool,
   (
    e69 = Ending.returned (Value.bool b71)) ∧
   R (Ending.returned (Value.bool b71)) w70)
  (
   ∃ n72 : Int,
   ∃ n73 : Int,
   ∃ n74 : Int,
   ∃ n75 : Int,
   ∃ n76 : Int,
   ∃ n77 : Int,
   ∃ n78 : Int,
   ∃ n79 : Int,
   ∃ s80 : ByteArray,
   ∃ s81 : ByteArray,
   ∃ n82 : Int,
   ∃ n83 : Int,
   ∃ s84 : ByteArray,
   ∃ n85 : Int,
   ∃ n86 : Int,
   ∃ n87 : Int,
   ∃ n88 : Int,
   ∃ n89 : Int,
   ∃ n90 : Int,
   ∃ n91 : Int,
   ∃ s92 : ByteArray,
   ∃ s93 : ByteArray,
   ∃ n94 : Int,
   ∃ n95 : Int,
   ∃ p96 : Option Addr,
   ∃ k97 : Nat,
   ∃ k98 : Nat,
   ∃ n99 : Int,
   ∃ n100 : Int,
   ∃ n101 : Int,
   ∃ n102 : Int,
   (
    Row w67 { block := b33, off := (0 : Nat) } (0 : Nat) [Value.int IntKind.i64 n72, Value.int IntKind.i64 n73, Value.int IntKind.i64 n74, Value.int IntKind.i64 n75, Value.int IntKind.i64 n76, Value.int IntKind.i64 n77, Value.int IntKind.i64 n78, Value.int IntKind.i64 n79, Value.string s80, Value.string s81, Value.int IntKind.i64 n82, Value.int IntKind.i64 n83, Value.string s84, Value.int IntKind.i64 n85, Value.int IntKind.i64 n86, Value.int IntKind.i64 n87, Value.int IntKind.i64 n88, Value.int IntKind.i64 n89, Value.int IntKind.i64 n90, Value.int IntKind.i64 n91, Value.string s92, Value.string s93, Value.int IntKind.i64 n94, Value.int IntKind.i64 n95, Value.slice p96 k97 k98, Value.int IntKind.i64 n99, Value.int IntKind.i64 n100, Value.int IntKind.i64 n101, Value.int IntKind.i64 n102]) ∧
   Ca Try.prog (49 : Nat) #[Value.agg #[Value.int IntKind.i64 n72, Value.int IntKind.i64 n73, Value.int IntKind.i64 n74, Value.int IntKind.i64 n75, Value.int IntKind.i64 n76, Value.int IntKind.i64 n77, Value.int IntKind.i64 n78, Value.int IntKind.i64 n79, Value.string s80, Value.string s81, Value.int IntKind.i64 n82, Value.int IntKind.i64 n83, Value.string s84, Value.int IntKind.i64 n85, Value.int IntKind.i64 n86, Value.int IntKind.i64 n87, Value.int IntKind.i64 n88, Value.int IntKind.i64 n89, Value.int IntKind.i64 n90, Value.int IntKind.i64 n91, Value.string s92, Value.string s93, Value.int IntKind.i64 n94, Value.int IntKind.i64 n95, Value.slice p96 k97 k98, Value.int IntKind.i64 n99, Value.int IntKind.i64 n100, Value.int IntKind.i64 n101, Value.int IntKind.i64 n102]] w67 fun e103 w104 =>
   ∃ n105 : Int,
   ∃ n106 : Int,
   ∃ n107 : Int,
   ∃ n108 : Int,
   ∃ n109 : Int,
   ∃ n110 : Int,
   ∃ n111 : Int,
   ∃ n112 : Int,
   ∃ s113 : ByteArray,
   ∃ s114 : ByteArray,
   ∃ n115 : Int,
   ∃ n116 : Int,
   ∃ s117 : ByteArray,
   ∃ n118 : Int,
   ∃ n119 : Int,
   ∃ n120 : Int,
   ∃ n121 : Int,
   ∃ n122 : Int,
   ∃ n123 : Int,
   ∃ n124 : Int,
   ∃ s125 : ByteArray,
   ∃ s126 : ByteArray,
   ∃ n127 : Int,
   ∃ n128 : Int,
   ∃ p129 : Option Addr,
   ∃ k130 : Nat,
   ∃ k131 : Nat,
   ∃ n132 : Int,
   ∃ n133 : Int,
   ∃ n134 : Int,
   ∃ n135 : Int,
   (
    e103 = Ending.returned (Value.agg #[Value.int IntKind.i64 n105, Value.int IntKind.i64 n106, Value.int IntKind.i64 n107, Value.int IntKind.i64 n108, Value.int IntKind.i64 n109, Value.int IntKind.i64 n110, Value.int IntKind.i64 n111, Value.int IntKind.i64 n112, Value.string s113, Value.string s114, Value.int IntKind.i64 n115, Value.int IntKind.i64 n116, Value.string s117, Value.int IntKind.i64 n118, Value.int IntKind.i64 n119, Value.int IntKind.i64 n120, Value.int IntKind.i64 n121, Value.int IntKind.i64 n122, Value.int IntKind.i64 n123, Value.int IntKind.i64 n124, Value.string s125, Value.string s126, Value.int IntKind.i64 n127, Value.int IntKind.i64 n128, Value.slice p129 k130 k131, Value.int IntKind.i64 n132, Value.int IntKind.i64 n133, Value.int IntKind.i64 n134, Value.int IntKind.i64 n135])) ∧
   LetA (Obj.cells #[Value.int IntKind.i64 (0 : Int), Value.int IntKind.i64 (0 : Int), Value.int IntKind.i64 (0 : Int), Value.int IntKind.i64 (0 : Int), Value.int IntKind.i64 (0 : Int), Value.int IntKind.i64 (0 : Int), Value.int IntKind.i64 (0 : Int), Value.int IntKind.i64 (0 : Int), Value.string { data := #[] }, Value.string { data := #[] }, Value.int IntKind.i64 (0 : Int), Value.int IntKind.i64 (0 : Int), Value.string { data := #[] }, Value.int IntKind.i64 (0 : Int), Value.int IntKind.i64 (0 : Int), Value.int IntKind.i64 (0 : Int), Value.int IntKind.i64 (0 : Int), Value.int IntKind.i64 (0 : Int), Value.int IntKind.i64 (0 : Int), Value.int IntKind.i64 (0 : Int), Value.string { data := #[] }, Value.string { data := #[] }, Value.int IntKind.i64 (0 : Int), Value.int IntKind.i64 (0 : Int), Value.slice none (0 : Nat) (0 : Nat), Value.int IntKind.i64 (0 : Int), Value.int IntKind.i64 (0 : Int), Value.int IntKind.i64 (0 : Int), Value.int IntKind.i64 (0 : Int)] (58 : Nat)) w104 fun b136 w137 =>
   (
    WrRow w137 { block := b136, off := (0 : Nat) } (0 : Nat) [Value.int IntKind.i64 n105, Value.int IntKind.i64 n106, Value.int IntKind.i64 n107, Value.int IntKind.i64 n108, Value.int IntKind.i64 n109, Value.int IntKind.i64 n110, Value.int IntKind.i64 n111, Value.int IntKind.i64 n112, Value.string s113, Value.string s114, Value.int IntKind.i64 n115, Value.int IntKind.i64 n116, Value.string s117, Value.int IntKind.i64 n118, Value.int IntKind.i64 n119, Value.int IntKind.i64 n120, Value.int IntKind.i64 n121, Value.int IntKind.i64 n122, Value.int IntKind.i64 n123, Value.int IntKind.i64 n124, Value.string s125, Value.string s126, Value.int IntKind.i64 n127, Value.int IntKind.i64 n128, Value.slice p129 k130 k131, Value.int IntKind.i64 n132, Value.int IntKind.i64 n133, Value.int IntKind.i64 n134, Value.int IntKind.i64 n135]) ∧
   LetW (setRow w137 { block := b136, off := (0 : Nat) } (0 : Nat) [Value.int IntKind.i64 n105, Value.int IntKind.i64 n106, Value.int IntKind.i64 n107, Value.int IntKind.i64 n108, Value.int IntKind.i64 n109, Value.int IntKind.i64 n110, Value.int IntKind.i64 n111, Value.int IntKind.i64 n112, Value.string s113, Value.string s114, Value.int IntKind.i64 n115, Value.int IntKind.i64 n116, Value.string s117, Value.int IntKind.i64 n118, Value.int IntKind.i64 n119, Value.int IntKind.i64 n120, Value.int IntKind.i64 n121, Value.int IntKind.i64 n122, Value.int IntKind.i64 n123, Value.int IntKind.i64 n124, Value.string s125, Value.string s126, Value.int IntKind.i64 n127, Value.int IntKind.i64 n128, Value.slice p129 k130 k131, Value.int IntKind.i64 n132, Value.int IntKind.i64 n133, Value.int IntKind.i64 n134, Value.int IntKind.i64 n135]) fun w138 =>
   ∃ n139 : Int,
   ∃ n140 : Int,
   ∃ n141 : Int,
   ∃ n142 : Int,
   ∃ n143 : Int,
   ∃ n144 : Int,
   ∃ n145 : Int,
   ∃ n146 : Int,
   ∃ s147 : ByteArray,
   ∃ s148 : ByteArray,
   ∃ n149 : Int,
   ∃ n150 : Int,
   ∃ s151 : ByteArray,
   ∃ n152 : Int,
   ∃ n153 : Int,
   ∃ n154 : Int,
   ∃ n155 : Int,
   ∃ n156 : Int,
   ∃ n157 : Int,
   ∃ n158 : Int,
   ∃ s159 : ByteArray,
   ∃ s160 : ByteArray,
   ∃ n161 : Int,
   ∃ n162 : Int,
   ∃ p163 : Option Addr,
   ∃ k164 : Nat,
   ∃ k165 : Nat,
   ∃ n166 : Int,
   ∃ n167 : Int,
   ∃ n168 : Int,
   ∃ n169 : Int,
   (
    Row w138 { block := b33, off := (0 : Nat) } (0 : Nat) [Value.int IntKind.i64 n139, Value.int IntKind.i64 n140, Value.int IntKind.i64 n141, Value.int IntKind.i64 n142, Value.int IntKind.i64 n143, Value.int IntKind.i64 n144, Value.int IntKind.i64 n145, Value.int IntKind.i64 n146, Value.string s147, Value.string s148, Value.int IntKind.i64 n149, Value.int IntKind.i64 n150, Value.string s151, Value.int IntKind.i64 n152, Value.int IntKind.i64 n153, Value.int IntKind.i64 n154, Value.int IntKind.i64 n155, Value.int IntKind.i64 n156, Value.int IntKind.i64 n157, Value.int IntKind.i64 n158, Value.string s159, Value.string s160, Value.int IntKind.i64 n161, Value.int IntKind.i64 n162, Value.slice p163 k164 k165, Value.int IntKind.i64 n166, Value.int IntKind.i64 n167, Value.int IntKind.i64 n168, Value.int IntKind.i64 n169]) ∧
   Ca Try.prog (50 : Nat) #[Value.agg #[Value.int IntKind.i64 n139, Value.int IntKind.i64 n140, Value.int IntKind.i64 n141, Value.int IntKind.i64 n142, Value.int IntKind.i64 n143, Value.int IntKind.i64 n144, Value.int IntKind.i64 n145, Value.int IntKind.i64 n146, Value.string s147, Value.string s148, Value.int IntKind.i64 n149, Value.int IntKind.i64 n150, Value.string s151, Value.int IntKind.i64 n152, Value.int IntKind.i64 n153, Value.int IntKind.i64 n154, Value.int IntKind.i64 n155, Value.int IntKind.i64 n156, Value.int IntKind.i64 n157, Value.int IntKind.i64 n158, Value.string s159, Value.string s160, Value.int IntKind.i64 n161, Value.int IntKind.i64 n162, Value.slice p163 k164 k165, Value.int IntKind.i64 n166, Value.int IntKind.i64 n167, Value.int IntKind.i64 n168, Value.int IntKind.i64 n169]] w138 fun e170 w171 =>
   ∃ s172 : ByteArray,
   ∃ n173 : Int,
   (
    e170 = Ending.returned (Value.tuple #[Value.string s172, Value.int IntKind.i64 n173])) ∧
   ∃ n174 : Int,
   ∃ n175 : Int,
   ∃ n176 : Int,
   ∃ n177 : Int,
   ∃ n178 : Int,
   ∃ n179 : Int,
   ∃ n180 : Int,
   ∃ n181 : Int,
   ∃ s182 : ByteArray,
   ∃ s183 : ByteArray,
   ∃ n184 : Int,
   ∃ n185 : Int,
   ∃ s186 : ByteArray,
   ∃ n187 : Int,
   ∃ n188 : Int,
   ∃ n189 : Int,
   ∃ n190 : Int,
   ∃ n191 : Int,
   ∃ n192 : Int,
   ∃ n193 : Int,
   ∃ s194 : ByteArray,
   ∃ s195 : ByteArray,
   ∃ n196 : Int,
   ∃ n197 : Int,
   ∃ p198 : Option Addr,
   ∃ k199 : Nat,
   ∃ k200 : Nat,
   ∃ n201 : Int,
   ∃ n202 : Int,
   ∃ n203 : Int,
   ∃ n204 : Int,
   (
    Row w171 { block := b136, off := (0 : Nat) } (0 : Nat) [Value.int IntKind.i64 n174, Value.int IntKind.i64 n175, Value.int IntKind.i64 n176, Value.int IntKind.i64 n177, Value.int IntKind.i64 n178, Value.int IntKind.i64 n179, Value.int IntKind.i64 n180, Value.int IntKind.i64 n181, Value.string s182, Value.string s183, Value.int IntKind.i64 n184, Value.int IntKind.i64 n185, Value.string s186, Value.int IntKind.i64 n187, Value.int IntKind.i64 n188, Value.int IntKind.i64 n189, Value.int IntKind.i64 n190, Value.int IntKind.i64 n191, Value.int IntKind.i64 n192, Value.int IntKind.i64 n193, Value.string s194, Value.string s195, Value.int IntKind.i64 n196, Value.int IntKind.i64 n197, Value.slice p198 k199 k200, Value.int IntKind.i64 n201, Value.int IntKind.i64 n202, Value.int IntKind.i64 n203, Value.int IntKind.i64 n204]) ∧
   Ca Try.prog (50 : Nat) #[Value.agg #[Value.int IntKind.i64 n174, Value.int IntKind.i64 n175, Value.int IntKind.i64 n176, Value.int IntKind.i64 n177, Value.int IntKind.i64 n178, Value.int IntKind.i64 n179, Value.int IntKind.i64 n180, Value.int IntKind.i64 n181, Value.string s182, Value.string s183, Value.int IntKind.i64 n184, Value.int IntKind.i64 n185, Value.string s186, Value.int IntKind.i64 n187, Value.int IntKind.i64 n188, Value.int IntKind.i64 n189, Value.int IntKind.i64 n190, Value.int IntKind.i64 n191, Value.int IntKind.i64 n192, Value.int IntKind.i64 n193, Value.string s194, Value.string s195, Value.int IntKind.i64 n196, Value.int IntKind.i64 n197, Value.slice p198 k199 k200, Value.int IntKind.i64 n201, Value.int IntKind.i64 n202, Value.int IntKind.i64 n203, Value.int IntKind.i64 n204]] w171 fun e205 w206 =>
   ∃ s207 : ByteArray,
   ∃ n208 : Int,
   (
    e205 = Ending.returned (Value.tuple #[Value.string s207, Value.int IntKind.i64 n208])) ∧
   Br (!s172.toList == s207.toList)
    (
     R (Ending.returned (Value.bool false)) w206)
    (
     Br (n173 != n208)
      (
       R (Ending.returned (Value.bool false)) w206)
      (
       ∃ n209 : Int,
       ∃ n210 : Int,
       ∃ n211 : Int,
       ∃ n212 : Int,
       ∃ n213 : Int,
       ∃ n214 : Int,
       ∃ n215 : Int,
       ∃ n216 : Int,
       ∃ s217 : ByteArray,
       ∃ s218 : ByteArray,
       ∃ n219 : Int,
       ∃ n220 : Int,
       ∃ s221 : ByteArray,
       ∃ n222 : Int,
       ∃ n223 : Int,
       ∃ n224 : Int,
       ∃ n225 : Int,
       ∃ n226 : Int,
       ∃ n227 : Int,
       ∃ n228 : Int,
       ∃ s229 : ByteArray,
       ∃ s230 : ByteArray,
       ∃ n231 : Int,
       ∃ n232 : Int,
       ∃ p233 : Option Addr,
       ∃ k234 : Nat,
       ∃ k235 : Nat,
       ∃ n236 : Int,
       ∃ n237 : Int,
       ∃ n238 : Int,
       ∃ n239 : Int,
       (
        Row w206 { block := b136, off := (0 : Nat) } (0 : Nat) [Value.int IntKind.i64 n209, Value.int IntKind.i64 n210, Value.int IntKind.i64 n211, Value.int IntKind.i64 n212, Value.int IntKind.i64 n213, Value.int IntKind.i64 n214, Value.int IntKind.i64 n215, Value.int IntKind.i64 n216, Value.string s217, Value.string s218, Value.int IntKind.i64 n219, Value.int IntKind.i64 n220, Value.string s221, Value.int IntKind.i64 n222, Value.int IntKind.i64 n223, Value.int IntKind.i64 n224, Value.int IntKind.i64 n225, Value.int IntKind.i64 n226, Value.int IntKind.i64 n227, Value.int IntKind.i64 n228, Value.string s229, Value.string s230, Value.int IntKind.i64 n231, Value.int IntKind.i64 n232, Value.slice p233 k234 k235, Value.int IntKind.i64 n236, Value.int IntKind.i64 n237, Value.int IntKind.i64 n238, Value.int IntKind.i64 n239]) ∧
       ∃ n240 : Int,
       ∃ n241 : Int,
       ∃ n242 : Int,
       ∃ n243 : Int,
       ∃ n244 : Int,
       ∃ n245 : Int,
       ∃ n246 : Int,
       ∃ n247 : Int,
       ∃ s248 : ByteArray,
       ∃ s249 : ByteArray,
       ∃ n250 : Int,
       ∃ n251 : Int,
       ∃ s252 : ByteArray,
       ∃ n253 : Int,
       ∃ n254 : Int,
       ∃ n255 : Int,
       ∃ n256 : Int,
       ∃ n257 : Int,
       ∃ n258 : Int,
       ∃ n259 : Int,
       ∃ s260 : ByteArray,
       ∃ s261 : ByteArray,
       ∃ n262 : Int,
       ∃ n263 : Int,
       ∃ p264 : Option Addr,
       ∃ k265 : Nat,
       ∃ k266 : Nat,
       ∃ n267 : Int,
       ∃ n268 : Int,
       ∃ n269 : Int,
       ∃ n270 : Int,
       (
        Row w206 { block := b136, off := (0 : Nat) } (0 : Nat) [Value.int IntKind.i64 n240, Value.int IntKind.i64 n241, Value.int IntKind.i64 n242, Value.int IntKind.i64 n243, Value.int IntKind.i64 n244, Value.int IntKind.i64 n245, Value.int IntKind.i64 n246, Value.int IntKind.i64 n247, Value.string s248, Value.string s249, Value.int IntKind.i64 n250, Value.int IntKind.i64 n251, Value.string s252, Value.int IntKind.i64 n253, Value.int IntKind.i64 n254, Value.int IntKind.i64 n255, Value.int IntKind.i64 n256, Value.int IntKind.i64 n257, Value.int IntKind.i64 n258, Value.int IntKind.i64 n259, Value.string s260, Value.string s261, Value.int IntKind.i64 n262, Value.int IntKind.i64 n263, Value.slice p264 k265 k266, Value.int IntKind.i64 n267, Value.int IntKind.i64 n268, Value.int IntKind.i64 n269, Value.int IntKind.i64 n270]) ∧
       Ca Try.prog (49 : Nat) #[Value.agg #[Value.int IntKind.i64 n209, Value.int IntKind.i64 n210, Value.int IntKind.i64 n211, Value.int IntKind.i64 n212, Value.int IntKind.i64 n213, Value.int IntKind.i64 n214, Value.int IntKind.i64 n215, Value.int IntKind.i64 n216, Value.string s217, Value.string s218, Value.int IntKind.i64 n219, Value.int IntKind.i64 n220, Value.string s221, Value.int IntKind.i64 n222, Value.int IntKind.i64 n223, Value.int IntKind.i64 n224, Value.int IntKind.i64 n225, Value.int IntKind.i64 n226, Value.int IntKind.i64 n227, Value.int IntKind.i64 n228, Value.string s229, Value.string s230, Value.int IntKind.i64 n231, Value.int IntKind.i64 n232, Value.slice p233 k234 k235, Value.int IntKind.i64 n236, Value.int IntKind.i64 n237, Value.int IntKind.i64 n238, Value.int IntKind.i64 n239]] w206 fun e271 w272 =>
       ∃ n273 : Int,
       ∃ n274 : Int,
       ∃ n275 : Int,
       ∃ n276 : Int,
       ∃ n277 : Int,
       ∃ n278 : Int,
       ∃ n279 : Int,
       ∃ n280 : Int,
       ∃ s281 : ByteArray,
       ∃ s282 : ByteArray,
       ∃ n283 : Int,
       ∃ n284 : Int,
       ∃ s285 : ByteArray,
       ∃ n286 : Int,
       ∃ n287 : Int,
       ∃ n288 : Int,
       ∃ n289 : Int,
       ∃ n290 : Int,
       ∃ n291 : Int,
       ∃ n292 : Int,
       ∃ s293 : ByteArray,
       ∃ s294 : ByteArray,
       ∃ n295 : Int,
       ∃ n296 : Int,
       ∃ p297 : Option Addr,
       ∃ k298 : Nat,
       ∃ k299 : Nat,
       ∃ n300 : Int,
       ∃ n301 : Int,
       ∃ n302 : Int,
       ∃ n303 : Int,
       (
        e271 = Ending.returned (Value.agg #[Value.int IntKind.i64 n273, Value.int IntKind.i64 n274, Value.int IntKind.i64 n275, Value.int IntKind.i64 n276, Value.int IntKind.i64 n277, Value.int IntKind.i64 n278, Value.int IntKind.i64 n279, Value.int IntKind.i64 n280, Value.string s281, Value.string s282, Value.int IntKind.i64 n283, Value.int IntKind.i64 n284, Value.string s285, Value.int IntKind.i64 n286, Value.int IntKind.i64 n287, Value.int IntKind.i64 n288, Value.int IntKind.i64 n289, Value.int IntKind.i64 n290, Value.int IntKind.i64 n291, Value.int IntKind.i64 n292, Value.string s293, Value.string s294, Value.int IntKind.i64 n295, Value.int IntKind.i64 n296, Value.slice p297 k298 k299, Value.int IntKind.i64 n300, Value.int IntKind.i64 n301, Value.int IntKind.i64 n302, Value.int IntKind.i64 n303])) ∧
       (
        Row w272 { block := b136, off := (0 : Nat) } (0 : Nat) [Value.int IntKind.i64 n240, Value.int IntKind.i64 n241, Value.int IntKind.i64 n242, Value.int IntKind.i64 n243, Value.int IntKind.i64 n244, Value.int IntKind.i64 n245, Value.int IntKind.i64 n246, Value.int IntKind.i64 n247, Value.string s248, Value.string s249, Value.int IntKind.i64 n250, Value.int IntKind.i64 n251, Value.string s252, Value.int IntKind.i64 n253, Value.int IntKind.i64 n254, Value.int IntKind.i64 n255, Value.int IntKind.i64 n256, Value.int IntKind.i64 n257, Value.int IntKind.i64 n258, Value.int IntKind.i64 n259, Value.string s260, Value.string s261, Value.int IntKind.i64 n262, Value.int IntKind.i64 n263, Value.slice p264 k265 k266, Value.int IntKind.i64 n267, Value.int IntKind.i64 n268, Value.int IntKind.i64 n269, Value.int IntKind.i64 n270]) ∧
       Ca Try.prog (51 : Nat) #[Value.agg #[Value.int IntKind.i64 n273, Value.int IntKind.i64 n274, Value.int IntKind.i64 n275, Value.int IntKind.i64 n276, Value.int IntKind.i64 n277, Value.int IntKind.i64 n278, Value.int IntKind.i64 n279, Value.int IntKind.i64 n280, Value.string s281, Value.string s282, Value.int IntKind.i64 n283, Value.int IntKind.i64 n284, Value.string s285, Value.int IntKind.i64 n286, Value.int IntKind.i64 n287, Value.int IntKind.i64 n288, Value.int IntKind.i64 n289, Value.int IntKind.i64 n290, Value.int IntKind.i64 n291, Value.int IntKind.i64 n292, Value.string s293, Value.string s294, Value.int IntKind.i64 n295, Value.int IntKind.i64 n296, Value.slice p297 k298 k299, Value.int IntKind.i64 n300, Value.int IntKind.i64 n301, Value.int IntKind.i64 n302, Value.int IntKind.i64 n303], Value.agg #[Value.int IntKind.i64 n240, Value.int IntKind.i64 n241, Value.int IntKind.i64 n242, Value.int IntKind.i64 n243, Value.int IntKind.i64 n244, Value.int IntKind.i64 n245, Value.int IntKind.i64 n246, Value.int IntKind.i64 n247, Value.string s248, Value.string s249, Value.int IntKind.i64 n250, Value.int IntKind.i64 n251, Value.string s252, Value.int IntKind.i64 n253, Value.int IntKind.i64 n254, Value.int IntKind.i64 n255, Value.int IntKind.i64 n256, Value.int IntKind.i64 n257, Value.int IntKind.i64 n258, Value.int IntKind.i64 n259, Value.string s260, Value.string s261, Value.int IntKind.i64 n262, Value.int IntKind.i64 n263, Value.slice p264 k265 k266, Value.int IntKind.i64 n267, Value.int IntKind.i64 n268, Value.int IntKind.i64 n269, Value.int IntKind.i64 n270]] w272 fun e304 w305 =>
       ∃ b306 : Bool,
       (
        e304 = Ending.returned (Value.bool b306)) ∧
       Br (!b306)
        (
         R (Ending.returned (Value.bool false)) w305)
        (
         ∃ n307 : Int,
         (
          w305.cell? { block := b136, off := (0 : Nat) } = some (Value.int IntKind.i64 n307)) ∧
         ∃ n308 : Int,
         (
          w305.cell? { block := b33, off := (0 : Nat) } = some (Value.int IntKind.i64 n308)) ∧
         Br (n307 != n308)
          (
           R (Ending.returned (Value.bool false)) w305)
          (
           Br (n173 != (0 : Int))
            (
             Br (n173 == (2 : Int))
              (
               Br (s172.toList == [])
                (
                 Ca Try.prog (44 : Nat) #[] w305 fun e309 w310 =>
                 ∃ b311 : Bool,
                 (
                  e309 = Ending.returned (Value.bool b311)) ∧
                 R (Ending.returned (Value.bool b311)) w310)
                (
                 R (Ending.returned (Value.bool false)) w305))
              (
               Br (n173 == (3 : Int))
                (
                 Br (s172.toList == [])
                  (
                   Ca Try.prog (44 : Nat) #[] w305 fun e312 w313 =>
                   ∃ b314 : Bool,
                   (
                    e312 = Ending.returned (Value.bool b314)) ∧
                   R (Ending.returned (Value.bool b314)) w313)
                  (
                   R (Ending.returned (Value.bool false)) w305))
                (
                 R (Ending.returned (Value.bool false)) w305)))
            (
             Br ((↑s172.size : Int) == (0 : Int))
              (
               R (Ending.returned (Value.bool false)) w305)
              (
               Br (decide ((↑s172.size : Int) > (512 : Int)))
                (
                 R (Ending.returned (Value.bool false)) w305)
                (
                 Ca Try.prog (45 : Nat) #[Value.string s172] w305 fun e315 w316 =>
                 ∃ n317 : Int,
                 ∃ n318 : Int,
                 ∃ n319 : Int,
                 ∃ n320 : Int,
                 ∃ n321 : Int,
                 ∃ n322 : Int,
                 ∃ n323 : Int,
                 ∃ n324 : Int,
                 ∃ s325 : ByteArray,
                 ∃ s326 : ByteArray,
                 ∃ n327 : Int,
                 ∃ n328 : Int,
                 ∃ s329 : ByteArray,
                 ∃ n330 : Int,
                 ∃ n331 : Int,
                 ∃ n332 : Int,
                 ∃ n333 : Int,
                 ∃ n334 : Int,
                 ∃ n335 : Int,
                 ∃ n336 : Int,
                 ∃ s337 : ByteArray,
                 ∃ s338 : ByteArray,
                 ∃ n339 : Int,
                 ∃ n340 : Int,
                 ∃ p341 : Option Addr,
                 ∃ k342 : Nat,
                 ∃ k343 : Nat,
                 ∃ n344 : Int,
                 ∃ n345 : Int,
                 ∃ n346 : Int,
                 ∃ n347 : Int,
                 ∃ n348 : Int,
                 (
                  e315 = Ending.returned (Value.tuple #[Value.agg #[Value.int IntKind.i64 n317, Value.int IntKind.i64 n318, Value.int IntKind.i64 n319, Value.int IntKind.i64 n320, Value.int IntKind.i64 n321, Value.int IntKind.i64 n322, Value.int IntKind.i64 n323, Value.int IntKind.i64 n324, Value.string s325, Value.string s326, Value.int IntKind.i64 n327, Value.int IntKind.i64 n328, Value.string s329, Value.int IntKind.i64 n330, Value.int IntKind.i64 n331, Value.int IntKind.i64 n332, Value.int IntKind.i64 n333, Value.int IntKind.i64 n334, Value.int IntKind.i64 n335, Value.int IntKind.i64 n336, Value.string s337, Value.string s338, Value.int IntKind.i64 n339, Value.int IntKind.i64 n340, Value.slice p341 k342 k343, Value.int IntKind.i64 n344, Value.int IntKind.i64 n345, Value.int IntKind.i64 n346, Value.int IntKind.i64 n347], Value.int IntKind.i64 n348])) ∧
                 LetA (Obj.cells #[Value.int IntKind.i64 (0 : Int), Value.int IntKind.i64 (0 : Int), Value.int IntKind.i64 (0 : Int), Value.int IntKind.i64 (0 : Int), Value.int IntKind.i64 (0 : Int), Value.int IntKind.i64 (0 : Int), Value.int IntKind.i64 (0 : Int), Value.int IntKind.i64 (0 : Int), Value.string { data := #[] }, Value.string { data := #[] }, Value.int IntKind.i64 (0 : Int), Value.int IntKind.i64 (0 : Int), Value.string { data := #[] }, Value.int IntKind.i64 (0 : Int), Value.int IntKind.i64 (0 : Int), Value.int IntKind.i64 (0 : Int), Value.int IntKind.i64 (0 : Int), Value.int IntKind.i64 (0 : Int), Value.int IntKind.i64 (0 : Int), Value.int IntKind.i64 (0 : Int), Value.string { data := #[] }, Value.string { data := #[] }, Value.int IntKind.i64 (0 : Int), Value.int IntKind.i64 (0 : Int), Value.slice none (0 : Nat) (0 : Nat), Value.int IntKind.i64 (0 : Int), Value.int IntKind.i64 (0 : Int), Value.int IntKind.i64 (0 : Int), Value.int IntKind.i64 (0 : Int)] (58 : Nat)) w316 fun b349 w350 =>
                 (
                  WrRow w350 { block := b349, off := (0 : Nat) } (0 : Nat) [Value.int IntKind.i64 n317, Value.int IntKind.i64 n318, Value.int IntKind.i64 n319, Value.int IntKind.i64 n320, Value.int IntKind.i64 n321, Value.int IntKind.i64 n322, Value.int IntKind.i64 n323, Value.int IntKind.i64 n324, Value.string s325, Value.string s326, Value.int IntKind.i64 n327, Value.int IntKind.i64 n328, Value.string s329, Value.int IntKind.i64 n330, Value.int IntKind.i64 n331, Value.int IntKind.i64 n332, Value.int IntKind.i64 n333, Value.int IntKind.i64 n334, Value.int IntKind.i64 n335, Value.int IntKind.i64 n336, Value.string s337, Value.string s338, Value.int IntKind.i64 n339, Value.int IntKind.i64 n340, Value.slice p341 k342 k343, Value.int IntKind.i64 n344, Value.int IntKind.i64 n345, Value.int IntKind.i64 n346, Value.int IntKind.i64 n347]) ∧
                 LetW (setRow w350 { block := b349, off := (0 : Nat) } (0 : Nat) [Value.int IntKind.i64 n317, Value.int IntKind.i64 n318, Value.int IntKind.i64 n319, Value.int IntKind.i64 n320, Value.int IntKind.i64 n321, Value.int IntKind.i64 n322, Value.int IntKind.i64 n323, Value.int IntKind.i64 n324, Value.string s325, Value.string s326, Value.int IntKind.i64 n327, Value.int IntKind.i64 n328, Value.string s329, Value.int IntKind.i64 n330, Value.int IntKind.i64 n331, Value.int IntKind.i64 n332, Value.int IntKind.i64 n333, Value.int IntKind.i64 n334, Value.int IntKind.i64 n335, Value.int IntKind.i64 n336, Value.string s337, Value.string s338, Value.int IntKind.i64 n339, Value.int IntKind.i64 n340, Value.slice p341 k342 k343, Value.int IntKind.i64 n344, Value.int IntKind.i64 n345, Value.int IntKind.i64 n346, Value.int IntKind.i64 n347]) fun w351 =>
                 LetI (IntKind.i64.wrap n32) fun n352 =>
                 (
                  (↑s172.size : Int) ≠ (0 : Int)) ∧
                 LetI (n352.tmod (↑s172.size : Int)) fun n353 =>
                 (
                  (
                   (0 : Int) ≤ (0 : Int)) ∧
                  (
                   (0 : Int) ≤ n353) ∧
                  n353 ≤ (↑s172.size : Int)) ∧
                 Ca Try.prog (45 : Nat) #[Value.string (s172.extract (0 : Nat) n353.toNat)] w351 fun e354 w355 =>
                 ∃ n356 : Int,
                 ∃ n357 : Int,
                 ∃ n358 : Int,
                 ∃ n359 : Int,
                 ∃ n360 : Int,
                 ∃ n361 : Int,
                 ∃ n362 : Int,
                 ∃ n363 : Int,
                 ∃ s364 : ByteArray,
                 ∃ s365 : ByteArray,
                 ∃ n366 : Int,
                 ∃ n367 : Int,
                 ∃ s368 : ByteArray,
                 ∃ n369 : Int,
                 ∃ n370 : Int,
                 ∃ n371 : Int,
                 ∃ n372 : Int,
                 ∃ n373 : Int,
                 ∃ n374 : Int,
                 ∃ n375 : Int,
                 ∃ s376 : ByteArray,
                 ∃ s377 : ByteArray,
                 ∃ n378 : Int,
                 ∃ n379 : Int,
                 ∃ p380 : Option Addr,
                 ∃ k381 : Nat,
                 ∃ k382 : Nat,
                 ∃ n383 : Int,
                 ∃ n384 : Int,
                 ∃ n385 : Int,
                 ∃ n386 : Int,
                 ∃ n387 : Int,
                 (
                  e354 = Ending.returned (Value.tuple #[Value.agg #[Value.int IntKind.i64 n356, Value.int IntKind.i64 n357, Value.int IntKind.i64 n358, Value.int IntKind.i64 n359, Value.int IntKind.i64 n360, Value.int IntKind.i64 n361, Value.int IntKind.i64 n362, Value.int IntKind.i64 n363, Value.string s364, Value.string s365, Value.int IntKind.i64 n366, Value.int IntKind.i64 n367, Value.string s368, Value.int IntKind.i64 n369, Value.int IntKind.i64 n370, Value.int IntKind.i64 n371, Value.int IntKind.i64 n372, Value.int IntKind.i64 n373, Value.int IntKind.i64 n374, Value.int IntKind.i64 n375, Value.string s376, Value.string s377, Value.int IntKind.i64 n378, Value.int IntKind.i64 n379, Value.slice p380 k381 k382, Value.int IntKind.i64 n383, Value.int IntKind.i64 n384, Value.int IntKind.i64 n385, Value.int IntKind.i64 n386], Value.int IntKind.i64 n387])) ∧
                 LetA (Obj.cells #[Value.int IntKind.i64 (0 : Int), Value.int IntKind.i64 (0 : Int), Value.int IntKind.i64 (0 : Int), Value.int IntKind.i64 (0 : Int), Value.int IntKind.i64 (0 : Int), Value.int IntKind.i64 (0 : Int), Value.int IntKind.i64 (0 : Int), Value.int IntKind.i64 (0 : Int), Value.string { data := #[] }, Value.string { data := #[] }, Value.int IntKind.i64 (0 : Int), Value.int IntKind.i64 (0 : Int), Value.string { data := #[] }, Value.int IntKind.i64 (0 : Int), Value.int IntKind.i64 (0 : Int), Value.int IntKind.i64 (0 : Int), Value.int IntKind.i64 (0 : Int), Value.int IntKind.i64 (0 : Int), Value.int IntKind.i64 (0 : Int), Value.int IntKind.i64 (0 : Int), Value.string { data := #[] }, Value.string { data := #[] }, Value.int IntKind.i64 (0 : Int), Value.int IntKind.i64 (0 : Int), Value.slice none (0 : Nat) (0 : Nat), Value.int IntKind.i64 (0 : Int), Value.int IntKind.i64 (0 : Int), Value.int IntKind.i64 (0 : Int), Value.int IntKind.i64 (0 : Int)] (58 : Nat)) w355 fun b388 w389 =>
                 (
                  WrRow w389 { block := b388, off := (0 : Nat) } (0 : Nat) [Value.int IntKind.i64 n356, Value.int IntKind.i64 n357, Value.int IntKind.i64 n358, Value.int IntKind.i64 n359, Value.int IntKind.i64 n360, Value.int IntKind.i64 n361, Value.int IntKind.i64 n362, Value.int IntKind.i64 n363, Value.string s364, Value.string s365, Value.int IntKind.i64 n366, Value.int IntKind.i64 n367, Value.string s368, Value.int IntKind.i64 n369, Value.int IntKind.i64 n370, Value.int IntKind.i64 n371, Value.int IntKind.i64 n372, Value.int IntKind.i64 n373, Value.int IntKind.i64 n374, Value.int IntKind.i64 n375, Value.string s376, Value.string s377, Value.int IntKind.i64 n378, Value.int IntKind.i64 n379, Value.slice p380 k381 k382, Value.int IntKind.i64 n383, Value.int IntKind.i64 n384, Value.int IntKind.i64 n385, Value.int IntKind.i64 n386]) ∧
                 LetW (setRow w389 { block := b388, off := (0 : Nat) } (0 : Nat) [Value.int IntKind.i64 n356, Value.int IntKind.i64 n357, Value.int IntKind.i64 n358, Value.int IntKind.i64 n359, Value.int IntKind.i64 n360, Value.int IntKind.i64 n361, Value.int IntKind.i64 n362, Value.int IntKind.i64 n363, Value.string s364, Value.string s365, Value.int IntKind.i64 n366, Value.int IntKind.i64 n367, Value.string s368, Value.int IntKind.i64 n369, Value.int IntKind.i64 n370, Value.int IntKind.i64 n371, Value.int IntKind.i64 n372, Value.int IntKind.i64 n373, Value.int IntKind.i64 n374, Value.int IntKind.i64 n375, Value.string s376, Value.string s377, Value.int IntKind.i64 n378, Value.int IntKind.i64 n379, Value.slice p380 k381 k382, Value.int IntKind.i64 n383, Value.int IntKind.i64 n384, Value.int IntKind.i64 n385, Value.int IntKind.i64 n386]) fun w390 =>
                 (
                  (↑(s172.size + (1 : Nat)) : Int) ≤ IntKind.i64.max) ∧
                 Ca Try.prog (45 : Nat) #[Value.string (s172 ++ { data := #[(0 : UInt8)] })] w390 fun e391 w392 =>
                 ∃ n393 : Int,
                 ∃ n394 : Int,
                 ∃ n395 : Int,
                 ∃ n396 : Int,
                 ∃ n397 : Int,
                 ∃ n398 : Int,
                 ∃ n399 : Int,
                 ∃ n400 : Int,
                 ∃ s401 : ByteArray,
                 ∃ s402 : ByteArray,
                 ∃ n403 : Int,
                 ∃ n404 : Int,
                 ∃ s405 : ByteArray,
                 ∃ n406 : Int,
                 ∃ n407 : Int,
                 ∃ n408 : Int,
                 ∃ n409 : Int,
                 ∃ n410 : Int,
                 ∃ n411 : Int,
                 ∃ n412 : Int,
                 ∃ s413 : ByteArray,
                 ∃ s414 : ByteArray,
                 ∃ n415 : Int,
                 ∃ n416 : Int,
                 ∃ p417 : Option Addr,
                 ∃ k418 : Nat,
                 ∃ k419 : Nat,
                 ∃ n420 : Int,
                 ∃ n421 : Int,
                 ∃ n422 : Int,
                 ∃ n423 : Int,
                 ∃ n424 : Int,
                 (
                  e391 = Ending.returned (Value.tuple #[Value.agg #[Value.int IntKind.i64 n393, Value.int IntKind.i64 n394, Value.int IntKind.i64 n395, Value.int IntKind.i64 n396, Value.int IntKind.i64 n397, Value.int IntKind.i64 n398, Value.int IntKind.i64 n399, Value.int IntKind.i64 n400, Value.string s401, Value.string s402, Value.int IntKind.i64 n403, Value.int IntKind.i64 n404, Value.string s405, Value.int IntKind.i64 n406, Value.int IntKind.i64 n407, Value.int IntKind.i64 n408, Value.int IntKind.i64 n409, Value.int IntKind.i64 n410, Value.int IntKind.i64 n411, Value.int IntKind.i64 n412, Value.string s413, Value.string s414, Value.int IntKind.i64 n415, Value.int IntKind.i64 n416, Value.slice p417 k418 k419, Value.int IntKind.i64 n420, Value.int IntKind.i64 n421, Value.int IntKind.i64 n422, Value.int IntKind.i64 n423], Value.int IntKind.i64 n424])) ∧
                 LetA (Obj.cells #[Value.int IntKind.i64 (0 : Int), Value.int IntKind.i64 (0 : Int), Value.int IntKind.i64 (0 : Int), Value.int IntKind.i64 (0 : Int), Value.int IntKind.i64 (0 : Int), Value.int IntKind.i64 (0 : Int), Value.int IntKind.i64 (0 : Int), Value.int IntKind.i64 (0 : Int), Value.string { data := #[] }, Value.string { data := #[] }, Value.int IntKind.i64 (0 : Int), Value.int IntKind.i64 (0 : Int), Value.string { data := #[] }, Value.int IntKind.i64 (0 : Int), Value.int IntKind.i64 (0 : Int), Value.int IntKind.i64 (0 : Int), Value.int IntKind.i64 (0 : Int), Value.int IntKind.i64 (0 : Int), Value.int IntKind.i64 (0 : Int), Value.int IntKind.i64 (0 : Int), Value.string { data := #[] }, Value.string { data := #[] }, Value.int IntKind.i64 (0 : Int), Value.int IntKind.i64 (0 : Int), Value.slice none (0 : Nat) (0 : Nat), Value.int IntKind.i64 (0 : Int), Value.int IntKind.i64 (0 : Int), Value.int IntKind.i64 (0 : Int), Value.int IntKind.i64 (0 : Int)] (58 : Nat)) w392 fun b425 w426 =>
                 (
                  WrRow w426 { block := b425, off := (0 : Nat) } (0 : Nat) [Value.int IntKind.i64 n393, Value.int IntKind.i64 n394, Value.int IntKind.i64 n395, Value.int IntKind.i64 n396, Value.int IntKind.i64 n397, Value.int IntKind.i64 n398, Value.int IntKind.i64 n399, Value.int IntKind.i64 n400, Value.string s401, Value.string s402, Value.int IntKind.i64 n403, Value.int IntKind.i64 n404, Value.string s405, Value.int IntKind.i64 n406, Value.int IntKind.i64 n407, Value.int IntKind.i64 n408, Value.int IntKind.i64 n409, Value.int IntKind.i64 n410, Value.int IntKind.i64 n411, Value.int IntKind.i64 n412, Value.string s413, Value.string s414, Value.int IntKind.i64 n415, Value.int IntKind.i64 n416, Value.slice p417 k418 k419, Value.int IntKind.i64 n420, Value.int IntKind.i64 n421, Value.int IntKind.i64 n422, Value.int IntKind.i64 n423]) ∧
                 LetW (setRow w426 { block := b425, off := (0 : Nat) } (0 : Nat) [Value.int IntKind.i64 n393, Value.int IntKind.i64 n394, Value.int IntKind.i64 n395, Value.int IntKind.i64 n396, Value.int IntKind.i64 n397, Value.int IntKind.i64 n398, Value.int IntKind.i64 n399, Value.int IntKind.i64 n400, Value.string s401, Value.string s402, Value.int IntKind.i64 n403, Value.int IntKind.i64 n404, Value.string s405, Value.int IntKind.i64 n406, Value.int IntKind.i64 n407, Value.int IntKind.i64 n408, Value.int IntKind.i64 n409, Value.int IntKind.i64 n410, Value.int IntKind.i64 n411, Value.int IntKind.i64 n412, Value.string s413, Value.string s414, Value.int IntKind.i64 n415, Value.int IntKind.i64 n416, Value.slice p417 k418 k419, Value.int IntKind.i64 n420, Value.int IntKind.i64 n421, Value.int IntKind.i64 n422, Value.int IntKind.i64 n423]) fun w427 =>
                 Br (n348 == (0 : Int))
                  (
                   ∃ n428 : Int,
                   ∃ n429 : Int,
                   ∃ n430 : Int,
                   ∃ n431 : Int,
                   ∃ n432 : Int,
                   ∃ n433 : Int,
                   ∃ n434 : Int,
                   ∃ n435 : Int,
                   ∃ s436 : ByteArray,
                   ∃ s437 : ByteArray,
                   ∃ n438 : Int,
                   ∃ n439 : Int,
                   ∃ s440 : ByteArray,
                   ∃ n441 : Int,
                   ∃ n442 : Int,
                   ∃ n443 : Int,
                   ∃ n444 : Int,
                   ∃ n445 : Int,
                   ∃ n446 : Int,
                   ∃ n447 : Int,
                   ∃ s448 : ByteArray,
                   ∃ s449 : ByteArray,
                   ∃ n450 : Int,
                   ∃ n451 : Int,
                   ∃ p452 : Option Addr,
                   ∃ k453 : Nat,
                   ∃ k454 : Nat,
                   ∃ n455 : Int,
                   ∃ n456 : Int,
                   ∃ n457 : Int,
                   ∃ n458 : Int,
                   (
                    Row w427 { block := b349, off := (0 : Nat) } (0 : Nat) [Value.int IntKind.i64 n428, Value.int IntKind.i64 n429, Value.int IntKind.i64 n430, Value.int IntKind.i64 n431, Value.int IntKind.i64 n432, Value.int IntKind.i64 n433, Value.int IntKind.i64 n434, Value.int IntKind.i64 n435, Value.string s436, Value.string s437, Value.int IntKind.i64 n438, Value.int IntKind.i64 n439, Value.string s440, Value.int IntKind.i64 n441, Value.int IntKind.i64 n442, Value.int IntKind.i64 n443, Value.int IntKind.i64 n444, Value.int IntKind.i64 n445, Value.int IntKind.i64 n446, Value.int IntKind.i64 n447, Value.string s448, Value.string s449, Value.int IntKind.i64 n450, Value.int IntKind.i64 n451, Value.slice p452 k453 k454, Value.int IntKind.i64 n455, Value.int IntKind.i64 n456, Value.int IntKind.i64 n457, Value.int IntKind.i64 n458]) ∧
                   ∃ n459 : Int,
                   ∃ n460 : Int,
                   ∃ n461 : Int,
                   ∃ n462 : Int,
                   ∃ n463 : Int,
                   ∃ n464 : Int,
                   ∃ n465 : Int,
                   ∃ n466 : Int,
                   ∃ s467 : ByteArray,
                   ∃ s468 : ByteArray,
                   ∃ n469 : Int,
                   ∃ n470 : Int,
                   ∃ s471 : ByteArray,
                   ∃ n472 : Int,
                   ∃ n473 : Int,
                   ∃ n474 : Int,
                   ∃ n475 : Int,
                   ∃ n476 : Int,
                   ∃ n477 : Int,
                   ∃ n478 : Int,
                   ∃ s479 : ByteArray,
                   ∃ s480 : ByteArray,
                   ∃ n481 : Int,
                   ∃ n482 : Int,
                   ∃ p483 : Option Addr,
                   ∃ k484 : Nat,
                   ∃ k485 : Nat,
                   ∃ n486 : Int,
                   ∃ n487 : Int,
                   ∃ n488 : Int,
                   ∃ n489 : Int,
                   (
                    Row w427 { block := b136, off := (0 : Nat) } (0 : Nat) [Value.int IntKind.i64 n459, Value.int IntKind.i64 n460, Value.int IntKind.i64 n461, Value.int IntKind.i64 n462, Value.int IntKind.i64 n463, Value.int IntKind.i64 n464, Value.int IntKind.i64 n465, Value.int IntKind.i64 n466, Value.string s467, Value.string s468, Value.int IntKind.i64 n469, Value.int IntKind.i64 n470, Value.string s471, Value.int IntKind.i64 n472, Value.int IntKind.i64 n473, Value.int IntKind.i64 n474, Value.int IntKind.i64 n475, Value.int IntKind.i64 n476, Value.int IntKind.i64 n477, Value.int IntKind.i64 n478, Value.string s479, Value.string s480, Value.int IntKind.i64 n481, Value.int IntKind.i64 n482, Value.slice p483 k484 k485, Value.int IntKind.i64 n486, Value.int IntKind.i64 n487, Value.int IntKind.i64 n488, Value.int IntKind.i64 n489]) ∧
                   Ca Try.prog (51 : Nat) #[Value.agg #[Value.int IntKind.i64 n428, Value.int IntKind.i64 n429, Value.int IntKind.i64 n430, Value.int IntKind.i64 n431, Value.int IntKind.i64 n432, Value.int IntKind.i64 n433, Value.int IntKind.i64 n434, Value.int IntKind.i64 n435, Value.string s436, Value.string s437, Value.int IntKind.i64 n438, Value.int IntKind.i64 n439, Value.string s440, Value.int IntKind.i64 n441, Value.int IntKind.i64 n442, Value.int IntKind.i64 n443, Value.int IntKind.i64 n444, Value.int IntKind.i64 n445, Value.int IntKind.i64 n446, Value.int IntKind.i64 n447, Value.string s448, Value.string s449, Value.int IntKind.i64 n450, Value.int IntKind.i64 n451, Value.slice p452 k453 k454, Value.int IntKind.i64 n455, Value.int IntKind.i64 n456, Value.int IntKind.i64 n457, Value.int IntKind.i64 n458], Value.agg #[Value.int IntKind.i64 n459, Value.int IntKind.i64 n460, Value.int IntKind.i64 n461, Value.int IntKind.i64 n462, Value.int IntKind.i64 n463, Value.int IntKind.i64 n464, Value.int IntKind.i64 n465, Value.int IntKind.i64 n466, Value.string s467, Value.string s468, Value.int IntKind.i64 n469, Value.int IntKind.i64 n470, Value.string s471, Value.int IntKind.i64 n472, Value.int IntKind.i64 n473, Value.int IntKind.i64 n474, Value.int IntKind.i64 n475, Value.int IntKind.i64 n476, Value.int IntKind.i64 n477, Value.int IntKind.i64 n478, Value.string s479, Value.string s480, Value.int IntKind.i64 n481, Value.int IntKind.i64 n482, Value.slice p483 k484 k485, Value.int IntKind.i64 n486, Value.int IntKind.i64 n487, Value.int IntKind.i64 n488, Value.int IntKind.i64 n489]] w427 fun e490 w491 =>
                   ∃ b492 : Bool,
                   (
                    e490 = Ending.returned (Value.bool b492)) ∧
                   Br (b492)
                    (
                     Br (n387 == (10 : Int))
                      (
                       ∃ n493 : Int,
                       ∃ n494 : Int,
                       ∃ n495 : Int,
                       ∃ n496 : Int,
                       ∃ n497 : Int,
                       ∃ n498 : Int,
                       ∃ n499 : Int,
                       ∃ n500 : Int,
                       ∃ s501 : ByteArray,
                       ∃ s502 : ByteArray,
                       ∃ n503 : Int,
                       ∃ n504 : Int,
                       ∃ s505 : ByteArray,
                       ∃ n506 : Int,
                       ∃ n507 : Int,
                       ∃ n508 : Int,
                       ∃ n509 : Int,
                       ∃ n510 : Int,
                       ∃ n511 : Int,
                       ∃ n512 : Int,
                       ∃ s513 : ByteArray,
                       ∃ s514 : ByteArray,
                       ∃ n515 : Int,
                       ∃ n516 : Int,
                       ∃ p517 : Option Addr,
                       ∃ k518 : Nat,
                       ∃ k519 : Nat,
                       ∃ n520 : Int,
                       ∃ n521 : Int,
                       ∃ n522 : Int,
                       ∃ n523 : Int,
                       (
                        Row w491 { block := b388, off := (0 : Nat) } (0 : Nat) [Value.int IntKind.i64 n493, Value.int IntKind.i64 n494, Value.int IntKind.i64 n495, Value.int IntKind.i64 n496, Value.int IntKind.i64 n497, Value.int IntKind.i64 n498, Value.int IntKind.i64 n499, Value.int IntKind.i64 n500, Value.string s501, Value.string s502, Value.int IntKind.i64 n503, Value.int IntKind.i64 n504, Value.string s505, Value.int IntKind.i64 n506, Value.int IntKind.i64 n507, Value.int IntKind.i64 n508, Value.int IntKind.i64 n509, Value.int IntKind.i64 n510, Value.int IntKind.i64 n511, Value.int IntKind.i64 n512, Value.string s513, Value.string s514, Value.int IntKind.i64 n515, Value.int IntKind.i64 n516, Value.slice p517 k518 k519, Value.int IntKind.i64 n520, Value.int IntKind.i64 n521, Value.int IntKind.i64 n522, Value.int IntKind.i64 n523]) ∧
                       Ca Try.prog (51 : Nat) #[Value.agg #[Value.int IntKind.i64 n493, Value.int IntKind.i64 n494, Value.int IntKind.i64 n495, Value.int IntKind.i64 n496, Value.int IntKind.i64 n497, Value.int IntKind.i64 n498, Value.int IntKind.i64 n499, Value.int IntKind.i64 n500, Value.string s501, Value.string s502, Value.int IntKind.i64 n503, Value.int IntKind.i64 n504, Value.string s505, Value.int IntKind.i64 n506, Value.int IntKind.i64 n507, Value.int IntKind.i64 n508, Value.int IntKind.i64 n509, Value.int IntKind.i64 n510, Value.int IntKind.i64 n511, Value.int IntKind.i64 n512, Value.string s513, Value.string s514, Value.int IntKind.i64 n515, Value.int IntKind.i64 n516, Value.slice p517 k518 k519, Value.int IntKind.i64 n520, Value.int IntKind.i64 n521, Value.int IntKind.i64 n522, Value.int IntKind.i64 n523], Value.agg #[Value.int IntKind.i64 (0 : Int), Value.int IntKind.i64 (0 : Int), Value.int IntKind.i64 (0 : Int), Value.int IntKind.i64 (0 : Int), Value.int IntKind.i64 (0 : Int), Value.int IntKind.i64 (0 : Int), Value.int IntKind.i64 (0 : Int), Value.int IntKind.i64 (0 : Int), Value.string { data := #[] }, Value.string { data := #[] }, Value.int IntKind.i64 (0 : Int), Value.int IntKind.i64 (0 : Int), Value.string { data := #[] }, Value.int IntKind.i64 (0 : Int), Value.int IntKind.i64 (0 : Int), Value.int IntKind.i64 (0 : Int), Value.int IntKind.i64 (0 : Int), Value.int IntKind.i64 (0 : Int), Value.int IntKind.i64 (0 : Int), Value.int IntKind.i64 (0 : Int), Value.string { data := #[] }, Value.string { data := #[] }, Value.int IntKind.i64 (0 : Int), Value.int IntKind.i64 (0 : Int), Value.slice none (0 : Nat) (0 : Nat), Value.int IntKind.i64 (0 : Int), Value.int IntKind.i64 (0 : Int), Value.int IntKind.i64 (0 : Int), Value.int IntKind.i64 (0 : Int)]] w491 fun e524 w525 =>
                       ∃ b526 : Bool,
                       (
                        e524 = Ending.returned (Value.bool b526)) ∧
                       Br (b526)
                        (
                         Br (n424 == (10 : Int))
                          (
                           ∃ n527 : Int,
                           ∃ n528 : Int,
                           ∃ n529 : Int,
                           ∃ n530 : Int,
                           ∃ n531 : Int,
                           ∃ n532 : Int,
                           ∃ n533 : Int,
                           ∃ n534 : Int,
                           ∃ s535 : ByteArray,
                           ∃ s536 : ByteArray,
                           ∃ n537 : Int,
                           ∃ n538 : Int,
                           ∃ s539 : ByteArray,
                           ∃ n540 : Int,
                           ∃ n541 : Int,
                           ∃ n542 : Int,
                           ∃ n543 : Int,
                           ∃ n544 : Int,
                           ∃ n545 : Int,
                           ∃ n546 : Int,
                           ∃ s547 : ByteArray,
                           ∃ s548 : ByteArray,
                           ∃ n549 : Int,
                           ∃ n550 : Int,
                           ∃ p551 : Option Addr,
                           ∃ k552 : Nat,
                           ∃ k553 : Nat,
                           ∃ n554 : Int,
                           ∃ n555 : Int,
                           ∃ n556 : Int,
                           ∃ n557 : Int,
                           (
                            Row w525 { block := b425, off := (0 : Nat) } (0 : Nat) [Value.int IntKind.i64 n527, Value.int IntKind.i64 n528, Value.int IntKind.i64 n529, Value.int IntKind.i64 n530, Value.int IntKind.i64 n531, Value.int IntKind.i64 n532, Value.int IntKind.i64 n533, Value.int IntKind.i64 n534, Value.string s535, Value.string s536, Value.int IntKind.i64 n537, Value.int IntKind.i64 n538, Value.string s539, Value.int IntKind.i64 n540, Value.int IntKind.i64 n541, Value.int IntKind.i64 n542, Value.int IntKind.i64 n543, Value.int IntKind.i64 n544, Value.int IntKind.i64 n545, Value.int IntKind.i64 n546, Value.string s547, Value.string s548, Value.int IntKind.i64 n549, Value.int IntKind.i64 n550, Value.slice p551 k552 k553, Value.int IntKind.i64 n554, Value.int IntKind.i64 n555, Value.int IntKind.i64 n556, Value.int IntKind.i64 n557]) ∧
                           Ca Try.prog (51 : Nat) #[Value.agg #[Value.int IntKind.i64 n527, Value.int IntKind.i64 n528, Value.int IntKind.i64 n529, Value.int IntKind.i64 n530, Value.int IntKind.i64 n531, Value.int IntKind.i64 n532, Value.int IntKind.i64 n533, Value.int IntKind.i64 n534, Value.string s535, Value.string s536, Value.int IntKind.i64 n537, Value.int IntKind.i64 n538, Value.string s539, Value.int IntKind.i64 n540, Value.int IntKind.i64 n541, Value.int IntKind.i64 n542, Value.int IntKind.i64 n543, Value.int IntKind.i64 n544, Value.int IntKind.i64 n545, Value.int IntKind.i64 n546, Value.string s547, Value.string s548, Value.int IntKind.i64 n549, Value.int IntKind.i64 n550, Value.slice p551 k552 k553, Value.int IntKind.i64 n554, Value.int IntKind.i64 n555, Value.int IntKind.i64 n556, Value.int IntKind.i64 n557], Value.agg #[Value.int IntKind.i64 (0 : Int), Value.int IntKind.i64 (0 : Int), Value.int IntKind.i64 (0 : Int), Value.int IntKind.i64 (0 : Int), Value.int IntKind.i64 (0 : Int), Value.int IntKind.i64 (0 : Int), Value.int IntKind.i64 (0 : Int), Value.int IntKind.i64 (0 : Int), Value.string { data := #[] }, Value.string { data := #[] }, Value.int IntKind.i64 (0 : Int), Value.int IntKind.i64 (0 : Int), Value.string { data := #[] }, Value.int IntKind.i64 (0 : Int), Value.int IntKind.i64 (0 : Int), Value.int IntKind.i64 (0 : Int), Value.int IntKind.i64 (0 : Int), Value.int IntKind.i64 (0 : Int), Value.int IntKind.i64 (0 : Int), Value.int IntKind.i64 (0 : Int), Value.string { data := #[] }, Value.string { data := #[] }, Value.int IntKind.i64 (0 : Int), Value.int IntKind.i64 (0 : Int), Value.slice none (0 : Nat) (0 : Nat), Value.int IntKind.i64 (0 : Int), Value.int IntKind.i64 (0 : Int), Value.int IntKind.i64 (0 : Int), Value.int IntKind.i64 (0 : Int)]] w525 fun e558 w559 =>
                           ∃ b560 : Bool,
                           (
                            e558 = Ending.returned (Value.bool b560)) ∧
                           Br (b560)
                            (
                             Ca Try.prog (44 : Nat) #[] w559 fun e561 w562 =>
                             ∃ b563 : Bool,
                             (
                              e561 = Ending.returned (Value.bool b563)) ∧
                             R (Ending.returned (Value.bool b563)) w562)
                            (
                             R (Ending.returned (Value.bool false)) w559))
                          (
                           R (Ending.returned (Value.bool false)) w525))
                        (
                         R (Ending.returned (Value.bool false)) w525))
                      (
                       R (Ending.returned (Value.bool false)) w491))
                    (
                     R (Ending.returned (Value.bool false)) w491))
                  (
                   R (Ending.returned (Value.bool false)) w427)))))))))
theorem lawFBack_ok (n1 : Int) (n2 : Int) (n3 : Int) (n4 : Int) (n5 : Int) (n6 : Int) (n7 : Int) (n8 : Int) (s9 : ByteArray) (s10 : ByteArray) (n11 : Int) (n12 : Int) (s13 : ByteArray) (n14 : Int) (n15 : Int) (n16 : Int) (n17 : Int) (n18 : Int) (n19 : Int) (n20 : Int) (s21 : ByteArray) (s22 : ByteArray) (n23 : Int) (n24 : Int) (p25 : Option Addr) (k26 : Nat) (k27 : Nat) (n28 : Int) (n29 : Int) (n30 : Int) (n31 : Int) (n32 : Int) (w : World) (R : Ending → World → Prop) (h : lawFBack n1 n2 n3 n4 n5 n6 n7 n8 s9 s10 n11 n12 s13 n14 n15 n16 n17 n18 n19 n20 s21 s22 n23 n24 p25 k26 k27 n28 n29 n30 n31 n32 w R) : Ca Try.prog 12 #[Value.agg #[Value.int IntKind.i64 n1, Value.int IntKind.i64 n2, Value.int IntKind.i64 n3, Value.int IntKind.i64 n4, Value.int IntKind.i64 n5, Value.int IntKind.i64 n6, Value.int IntKind.i64 n7, Value.int IntKind.i64 n8, Value.string s9, Value.string s10, Value.int IntKind.i64 n11, Value.int IntKind.i64 n12, Value.string s13, Value.int IntKind.i64 n14, Value.int IntKind.i64 n15, Value.int IntKind.i64 n16, Value.int IntKind.i64 n17, Value.int IntKind.i64 n18, Value.int IntKind.i64 n19, Value.int IntKind.i64 n20, Value.string s21, Value.string s22, Value.int IntKind.i64 n23, Value.int IntKind.i64 n24, Value.slice p25 k26 k27, Value.int IntKind.i64 n28, Value.int IntKind.i64 n29, Value.int IntKind.i64 n30, Value.int IntKind.i64 n31], Value.int IntKind.u16 n32] w R :=
  Ca.of_fvc (c := bodyOf Try.f12) (by kernel_rfl) Try.func12 (by kernel_rfl) [] (Eq.mp (by kernel_rfl) h)

def lawFForm (s1 : ByteArray) (w : World) (R : Ending → World → Prop) : Prop :=
 Br (decide ((↑s1.size : Int) > (700 : Int)))
  (
   Ca Try.prog (44 : Nat) #[] w fun e2 w3 =>
   ∃ b4 : Bool,
   (
    e2 = Ending.returned (Value.bool b4)) ∧
   R (Ending.returned (Value.bool b4)) w3)
  (
   Ca Try.prog (45 : Nat) #[Value.string s1] w fun e5 w6 =>
   ∃ n7 : Int,
   ∃ n8 : Int,
   ∃ n9 : Int,
   ∃ n10 : Int,
   ∃ n11 : Int,
   ∃ n12 : Int,
   ∃ n13 : Int,
   ∃ n14 : Int,
   ∃ s15 : ByteArray,
   ∃ s16 : ByteArray,
   ∃ n17 : Int,
   ∃ n18 : Int,
   ∃ s19 : ByteArray,
   ∃ n20 : Int,
   ∃ n21 : Int,
   ∃ n22 : Int,
   ∃ n23 : Int,
   ∃ n24 : Int,
   ∃ n25 : Int,
   ∃ n26 : Int,
   ∃ s27 : ByteArray,
   ∃ s28 : ByteArray,
   ∃ n29 : Int,
   ∃ n30 : Int,
   ∃ p31 : Option Addr,
   ∃ k32 : Nat,
   ∃ k33 : Nat,
   ∃ n34 : Int,
   ∃ n35 : Int,
   ∃ n36 : Int,
   ∃ n37 : Int,
   ∃ n38 : Int,
   (
    e5 = Ending.returned (Value.tuple #[Value.agg #[Value.int IntKind.i64 n7, Value.int IntKind.i64 n8, Value.int IntKind.i64 n9, Value.int IntKind.i64 n10, Value.int IntKind.i64 n11, Value.int IntKind.i64 n12, Value.int IntKind.i64 n13, Value.int IntKind.i64 n14, Value.string s15, Value.string s16, Value.int IntKind.i64 n17, Value.int IntKind.i64 n18, Value.string s19, Value.int IntKind.i64 n20, Value.int IntKind.i64 n21, Value.int IntKind.i64 n22, Value.int IntKind.i64 n23, Value.int IntKind.i64 n24, Value.int IntKind.i64 n25, Value.int IntKind.i64 n26, Value.string s27, Value.string s28, Value.int IntKind.i64 n29, Value.int IntKind.i64 n30, Value.slice p31 k32 k33, Value.int IntKind.i64 n34, Value.int IntKind.i64 n35, Value.int IntKind.i64 n36, Value.int IntKind.i64 n37], Value.int IntKind.i64 n38])) ∧
   LetA (Obj.cells #[Value.int IntKind.i64 (0 : Int), Value.int IntKind.i64 (0 : Int), Value.int IntKind.i64 (0 : Int), Value.int IntKind.i64 (0 : Int), Value.int IntKind.i64 (0 : Int), Value.int IntKind.i64 (0 : Int), Value.int IntKind.i64 (0 : Int), Value.int IntKind.i64 (0 : Int), Value.string { data := #[] }, Value.string { data := #[] }, Value.int IntKind.i64 (0 : Int), Value.int IntKind.i64 (0 : Int), Value.string { data := #[] }, Value.int IntKind.i64 (0 : Int), Value.int IntKind.i64 (0 : Int), Value.int IntKind.i64 (0 : Int), Value.int IntKind.i64 (0 : Int), Value.int IntKind.i64 (0 : Int), Value.int IntKind.i64 (0 : Int), Value.int IntKind.i64 (0 : Int), Value.string { data := #[] }, Value.string { data := #[] }, Value.int IntKind.i64 (0 : Int), Value.int IntKind.i64 (0 : Int), Value.slice none (0 : Nat) (0 : Nat), Value.int IntKind.i64 (0 : Int), Value.int IntKind.i64 (0 : Int), Value.int IntKind.i64 (0 : Int), Value.int IntKind.i64 (0 : Int)] (58 : Nat)) w6 fun b39 w40 =>
   (
    WrRow w40 { block := b39, off := (0 : Nat) } (0 : Nat) [Value.int IntKind.i64 n7, Value.int IntKind.i64 n8, Value.int IntKind.i64 n9, Value.int IntKind.i64 n10, Value.int IntKind.i64 n11, Value.int IntKind.i64 n12, Value.int IntKind.i64 n13, Value.int IntKind.i64 n14, Value.string s15, Value.string s16, Value.int IntKind.i64 n17, Value.int IntKind.i64 n18, Value.string s19, Value.int IntKind.i64 n20, Value.int IntKind.i64 n21, Value.int IntKind.i64 n22, Value.int IntKind.i64 n23, Value.int IntKind.i64 n24, Value.int IntKind.i64 n25, Value.int IntKind.i64 n26, Value.string s27, Value.string s28, Value.int IntKind.i64 n29, Value.int IntKind.i64 n30, Value.slice p31 k32 k33, Value.int IntKind.i64 n34, Value.int IntKind.i64 n35, Value.int IntKind.i64 n36, Value.int IntKind.i64 n37]) ∧
   LetW (setRow w40 { block := b39, off := (0 : Nat) } (0 : Nat) [Value.int IntKind.i64 n7, Value.int IntKind.i64 n8, Value.int IntKind.i64 n9, Value.int IntKind.i64 n10, Value.int IntKind.i64 n11, Value.int IntKind.i64 n12, Value.int IntKind.i64 n13, Value.int IntKind.i64 n14, Value.string s15, Value.string s16, Value.int IntKind.i64 n17, Value.int IntKind.i64 n18, Value.string s19, Value.int IntKind.i64 n20, Value.int IntKind.i64 n21, Value.int IntKind.i64 n22, Value.int IntKind.i64 n23, Value.int IntKind.i64 n24, Value.int IntKind.i64 n25, Value.int IntKind.i64 n26, Value.string s27, Value.string s28, Value.int IntKind.i64 n29, Value.int IntKind.i64 n30, Value.slice p31 k32 k33, Value.int IntKind.i64 n34, Value.int IntKind.i64 n35, Value.int IntKind.i64 n36, Value.int IntKind.i64 n37]) fun w41 =>
   Br (n38 != (0 : Int))
    (
     Br (n38 == (10 : Int))
      (
       ∃ n42 : Int,
       ∃ n43 : Int,
       ∃ n44 : Int,
       ∃ n45 : Int,
       ∃ n46 : Int,
       ∃ n47 : Int,
       ∃ n48 : Int,
       ∃ n49 : Int,
       ∃ s50 : ByteArray,
       ∃ s51 : ByteArray,
       ∃ n52 : Int,
       ∃ n53 : Int,
       ∃ s54 : ByteArray,
       ∃ n55 : Int,
       ∃ n56 : Int,
       ∃ n57 : Int,
       ∃ n58 : Int,
       ∃ n59 : Int,
       ∃ n60 : Int,
       ∃ n61 : Int,
       ∃ s62 : ByteArray,
       ∃ s63 : ByteArray,
       ∃ n64 : Int,
       ∃ n65 : Int,
       ∃ p66 : Option Addr,
       ∃ k67 : Nat,
       ∃ k68 : Nat,
       ∃ n69 : Int,
       ∃ n70 : Int,
       ∃ n71 : Int,
       ∃ n72 : Int,
       (
        Row w41 { block := b39, off := (0 : Nat) } (0 : Nat) [Value.int IntKind.i64 n42, Value.int IntKind.i64 n43, Value.int IntKind.i64 n44, Value.int IntKind.i64 n45, Value.int IntKind.i64 n46, Value.int IntKind.i64 n47, Value.int IntKind.i64 n48, Value.int IntKind.i64 n49, Value.string s50, Value.string s51, Value.int IntKind.i64 n52, Value.int IntKind.i64 n53, Value.string s54, Value.int IntKind.i64 n55, Value.int IntKind.i64 n56, Value.int IntKind.i64 n57, Value.int IntKind.i64 n58, Value.int IntKind.i64 n59, Value.int IntKind.i64 n60, Value.int IntKind.i64 n61, Value.string s62, Value.string s63, Value.int IntKind.i64 n64, Value.int IntKind.i64 n65, Value.slice p66 k67 k68, Value.int IntKind.i64 n69, Value.int IntKind.i64 n70, Value.int IntKind.i64 n71, Value.int IntKind.i64 n72]) ∧
       Ca Try.prog (51 : Nat) #[Value.agg #[Value.int IntKind.i64 n42, Value.int IntKind.i64 n43, Value.int IntKind.i64 n44, Value.int IntKind.i64 n45, Value.int IntKind.i64 n46, Value.int IntKind.i64 n47, Value.int IntKind.i64 n48, Value.int IntKind.i64 n49, Value.string s50, Value.string s51, Value.int IntKind.i64 n52, Value.int IntKind.i64 n53, Value.string s54, Value.int IntKind.i64 n55, Value.int IntKind.i64 n56, Value.int IntKind.i64 n57, Value.int IntKind.i64 n58, Value.int IntKind.i64 n59, Value.int IntKind.i64 n60, Value.int IntKind.i64 n61, Value.string s62, Value.string s63, Value.int IntKind.i64 n64, Value.int IntKind.i64 n65, Value.slice p66 k67 k68, Value.int IntKind.i64 n69, Value.int IntKind.i64 n70, Value.int IntKind.i64 n71, Value.int IntKind.i64 n72], Value.agg #[Value.int IntKind.i64 (0 : Int), Value.int IntKind.i64 (0 : Int), Value.int IntKind.i64 (0 : Int), Value.int IntKind.i64 (0 : Int), Value.int IntKind.i64 (0 : Int), Value.int IntKind.i64 (0 : Int), Value.int IntKind.i64 (0 : Int), Value.int IntKind.i64 (0 : Int), Value.string { data := #[] }, Value.string { data := #[] }, Value.int IntKind.i64 (0 : Int), Value.int IntKind.i64 (0 : Int), Value.string { data := #[] }, Value.int IntKind.i64 (0 : Int), Value.int IntKind.i64 (0 : Int), Value.int IntKind.i64 (0 : Int), Value.int IntKind.i64 (0 : Int), Value.int IntKind.i64 (0 : Int), Value.int IntKind.i64 (0 : Int), Value.int IntKind.i64 (0 : Int), Value.string { data := #[] }, Value.string { data := #[] }, Value.int IntKind.i64 (0 : Int), Value.int IntKind.i64 (0 : Int), Value.slice none (0 : Nat) (0 : Nat), Value.int IntKind.i64 (0 : Int), Value.int IntKind.i64 (0 : Int), Value.int IntKind.i64 (0 : Int), Value.int IntKind.i64 (0 : Int)]] w41 fun e73 w74 =>
       ∃ b75 : Bool,
       (
        e73 = Ending.returned (Value.bool b75)) ∧
       Br (b75)
        (
         Ca Try.prog (44 : Nat) #[] w74 fun e76 w77 =>
         ∃ b78 : Bool,
         (
          e76 = Ending.returned (Value.bool b78)) ∧
         R (Ending.returned (Value.bool b78)) w77)
        (
         R (Ending.returned (Value.bool false)) w74))
      (
       R (Ending.returned (Value.bool false)) w41))
    (
     ∃ n79 : Int,
     ∃ n80 : Int,
     ∃ n81 : Int,
     ∃ n82 : Int,
     ∃ n83 : Int,
     ∃ n84 : Int,
     ∃ n85 : Int,
     ∃ n86 : Int,
     ∃ s87 : ByteArray,
     ∃ s88 : ByteArray,
     ∃ n89 : Int,
     ∃ n90 : Int,
     ∃ s91 : ByteArray,
     ∃ n92 : Int,
     ∃ n93 : Int,
     ∃ n94 : Int,
     ∃ n95 : Int,
     ∃ n96 : Int,
     ∃ n97 : Int,
     ∃ n98 : Int,
     ∃ s99 : ByteArray,
     ∃ s100 : ByteArray,
     ∃ n101 : Int,
     ∃ n102 : Int,
     ∃ p103 : Option Addr,
     ∃ k104 : Nat,
     ∃ k105 : Nat,
     ∃ n106 : Int,
     ∃ n107 : Int,
     ∃ n108 : Int,
     ∃ n109 : Int,
     (
      Row w41 { block := b39, off := (0 : Nat) } (0 : Nat) [Value.int IntKind.i64 n79, Value.int IntKind.i64 n80, Value.int IntKind.i64 n81, Value.int IntKind.i64 n82, Value.int IntKind.i64 n83, Value.int IntKind.i64 n84, Value.int IntKind.i64 n85, Value.int IntKind.i64 n86, Value.string s87, Value.string s88, Value.int IntKind.i64 n89, Value.int IntKind.i64 n90, Value.string s91, Value.int IntKind.i64 n92, Value.int IntKind.i64 n93, Value.int IntKind.i64 n94, Value.int IntKind.i64 n95, Value.int IntKind.i64 n96, Value.int IntKind.i64 n97, Value.int IntKind.i64 n98, Value.string s99, Value.string s100, Value.int IntKind.i64 n101, Value.int IntKind.i64 n102, Value.slice p103 k104 k105, Value.int IntKind.i64 n106, Value.int IntKind.i64 n107, Value.int IntKind.i64 n108, Value.int IntKind.i64 n109]) ∧
     Ca Try.prog (52 : Nat) #[Value.agg #[Value.int IntKind.i64 n79, Value.int IntKind.i64 n80, Value.int IntKind.i64 n81, Value.int IntKind.i64 n82, Value.int IntKind.i64 n83, Value.int IntKind.i64 n84, Value.int IntKind.i64 n85, Value.int IntKind.i64 n86, Value.string s87, Value.string s88, Value.int IntKind.i64 n89, Value.int IntKind.i64 n90, Value.string s91, Value.int IntKind.i64 n92, Value.int IntKind.i64 n93, Value.int IntKind.i64 n94, Value.int IntKind.i64 n95, Value.int IntKind.i64 n96, Value.int IntKind.i64 n97, Value.int IntKind.i64 n98, Value.string s99, Value.string s100, Value.int IntKind.i64 n101, Value.int IntKind.i64 n102, Value.slice p103 k104 k105, Value.int IntKind.i64 n106, Value.int IntKind.i64 n107, Value.int IntKind.i64 n108, Value.int IntKind.i64 n109], Value.string s1] w41 fun e110 w111 =>
     ∃ b112 : Bool,
     (
      e110 = Ending.returned (Value.bool b112)) ∧
     Br (b112)
      (
       ∃ n113 : Int,
       ∃ n114 : Int,
       ∃ n115 : Int,
       ∃ n116 : Int,
       ∃ n117 : Int,
       ∃ n118 : Int,
       ∃ n119 : Int,
       ∃ n120 : Int,
       ∃ s121 : ByteArray,
       ∃ s122 : ByteArray,
       ∃ n123 : Int,
       ∃ n124 : Int,
       ∃ s125 : ByteArray,
       ∃ n126 : Int,
       ∃ n127 : Int,
       ∃ n128 : Int,
       ∃ n129 : Int,
       ∃ n130 : Int,
       ∃ n131 : Int,
       ∃ n132 : Int,
       ∃ s133 : ByteArray,
       ∃ s134 : ByteArray,
       ∃ n135 : Int,
       ∃ n136 : Int,
       ∃ p137 : Option Addr,
       ∃ k138 : Nat,
       ∃ k139 : Nat,
       ∃ n140 : Int,
       ∃ n141 : Int,
       ∃ n142 : Int,
       ∃ n143 : Int,
       (
        Row w111 { block := b39, off := (0 : Nat) } (0 : Nat) [Value.int IntKind.i64 n113, Value.int IntKind.i64 n114, Value.int IntKind.i64 n115, Value.int IntKind.i64 n116, Value.int IntKind.i64 n117, Value.int IntKind.i64 n118, Value.int IntKind.i64 n119, Value.int IntKind.i64 n120, Value.string s121, Value.string s122, Value.int IntKind.i64 n123, Value.int IntKind.i64 n124, Value.string s125, Value.int IntKind.i64 n126, Value.int IntKind.i64 n127, Value.int IntKind.i64 n128, Value.int IntKind.i64 n129, Value.int IntKind.i64 n130, Value.int IntKind.i64 n131, Value.int IntKind.i64 n132, Value.string s133, Value.string s134, Value.int IntKind.i64 n135, Value.int IntKind.i64 n136, Value.slice p137 k138 k139, Value.int IntKind.i64 n140, Value.int IntKind.i64 n141, Value.int IntKind.i64 n142, Value.int IntKind.i64 n143]) ∧
       ∃ n144 : Int,
       ∃ n145 : Int,
       ∃ n146 : Int,
       ∃ n147 : Int,
       ∃ n148 : Int,
       ∃ n149 : Int,
       ∃ n150 : Int,
       ∃ n151 : Int,
       ∃ s152 : ByteArray,
       ∃ s153 : ByteArray,
       ∃ n154 : Int,
       ∃ n155 : Int,
       ∃ s156 : ByteArray,
       ∃ n157 : Int,
       ∃ n158 : Int,
       ∃ n159 : Int,
       ∃ n160 : Int,
       ∃ n161 : Int,
       ∃ n162 : Int,
       ∃ n163 : Int,
       ∃ s164 : ByteArray,
       ∃ s165 : ByteArray,
       ∃ n166 : Int,
       ∃ n167 : Int,
       ∃ p168 : Option Addr,
       ∃ k169 : Nat,
       ∃ k170 : Nat,
       ∃ n171 : Int,
       ∃ n172 : Int,
       ∃ n173 : Int,
       ∃ n174 : Int,
       (
        Row w111 { block := b39, off := (0 : Nat) } (0 : Nat) [Value.int IntKind.i64 n144, Value.int IntKind.i64 n145, Value.int IntKind.i64 n146, Value.int IntKind.i64 n147, Value.int IntKind.i64 n148, Value.int IntKind.i64 n149, Value.int IntKind.i64 n150, Value.int IntKind.i64 n151, Value.string s152, Value.string s153, Value.int IntKind.i64 n154, Value.int IntKind.i64 n155, Value.string s156, Value.int IntKind.i64 n157, Value.int IntKind.i64 n158, Value.int IntKind.i64 n159, Value.int IntKind.i64 n160, Value.int IntKind.i64 n161, Value.int IntKind.i64 n162, Value.int IntKind.i64 n163, Value.string s164, Value.string s165, Value.int IntKind.i64 n166, Value.int IntKind.i64 n167, Value.slice p168 k169 k170, Value.int IntKind.i64 n171, Value.int IntKind.i64 n172, Value.int IntKind.i64 n173, Value.int IntKind.i64 n174]) ∧
       Ca Try.prog (49 : Nat) #[Value.agg #[Value.int IntKind.i64 n113, Value.int IntKind.i64 n114, Value.int IntKind.i64 n115, Value.int IntKind.i64 n116, Value.int IntKind.i64 n117, Value.int IntKind.i64 n118, Value.int IntKind.i64 n119, Value.int IntKind.i64 n120, Value.string s121, Value.string s122, Value.int IntKind.i64 n123, Value.int IntKind.i64 n124, Value.string s125, Value.int IntKind.i64 n126, Value.int IntKind.i64 n127, Value.int IntKind.i64 n128, Value.int IntKind.i64 n129, Value.int IntKind.i64 n130, Value.int IntKind.i64 n131, Value.int IntKind.i64 n132, Value.string s133, Value.string s134, Value.int IntKind.i64 n135, Value.int IntKind.i64 n136, Value.slice p137 k138 k139, Value.int IntKind.i64 n140, Value.int IntKind.i64 n141, Value.int IntKind.i64 n142, Value.int IntKind.i64 n143]] w111 fun e175 w176 =>
       ∃ n177 : Int,
       ∃ n178 : Int,
       ∃ n179 : Int,
       ∃ n180 : Int,
       ∃ n181 : Int,
       ∃ n182 : Int,
       ∃ n183 : Int,
       ∃ n184 : Int,
       ∃ s185 : ByteArray,
       ∃ s186 : ByteArray,
       ∃ n187 : Int,
       ∃ n188 : Int,
       ∃ s189 : ByteArray,
       ∃ n190 : Int,
       ∃ n191 : Int,
       ∃ n192 : Int,
       ∃ n193 : Int,
       ∃ n194 : Int,
       ∃ n195 : Int,
       ∃ n196 : Int,
       ∃ s197 : ByteArray,
       ∃ s198 : ByteArray,
       ∃ n199 : Int,
       ∃ n200 : Int,
       ∃ p201 : Option Addr,
       ∃ k202 : Nat,
       ∃ k203 : Nat,
       ∃ n204 : Int,
       ∃ n205 : Int,
       ∃ n206 : Int,
       ∃ n207 : Int,
       (
        e175 = Ending.returned (Value.agg #[Value.int IntKind.i64 n177, Value.int IntKind.i64 n178, Value.int IntKind.i64 n179, Value.int IntKind.i64 n180, Value.int IntKind.i64 n181, Value.int IntKind.i64 n182, Value.int IntKind.i64 n183, Value.int IntKind.i64 n184, Value.string s185, Value.string s186, Value.int IntKind.i64 n187, Value.int IntKind.i64 n188, Value.string s189, Value.int IntKind.i64 n190, Value.int IntKind.i64 n191, Value.int IntKind.i64 n192, Value.int IntKind.i64 n193, Value.int IntKind.i64 n194, Value.int IntKind.i64 n195, Value.int IntKind.i64 n196, Value.string s197, Value.string s198, Value.int IntKind.i64 n199, Value.int IntKind.i64 n200, Value.slice p201 k202 k203, Value.int IntKind.i64 n204, Value.int IntKind.i64 n205, Value.int IntKind.i64 n206, Value.int IntKind.i64 n207])) ∧
       (
        Row w176 { block := b39, off := (0 : Nat) } (0 : Nat) [Value.int IntKind.i64 n144, Value.int IntKind.i64 n145, Value.int IntKind.i64 n146, Value.int IntKind.i64 n147, Value.int IntKind.i64 n148, Value.int IntKind.i64 n149, Value.int IntKind.i64 n150, Value.int IntKind.i64 n151, Value.string s152, Value.string s153, Value.int IntKind.i64 n154, Value.int IntKind.i64 n155, Value.string s156, Value.int IntKind.i64 n157, Value.int IntKind.i64 n158, Value.int IntKind.i64 n159, Value.int IntKind.i64 n160, Value.int IntKind.i64 n161, Value.int IntKind.i64 n162, Value.int IntKind.i64 n163, Value.string s164, Value.string s165, Value.int IntKind.i64 n166, Value.int IntKind.i64 n167, Value.slice p168 k169 k170, Value.int IntKind.i64 n171, Value.int IntKind.i64 n172, Value.int IntKind.i64 n173, Value.int IntKind.i64 n174]) ∧
       Ca Try.prog (51 : Nat) #[Value.agg #[Value.int IntKind.i64 n177, Value.int IntKind.i64 n178, Value.int IntKind.i64 n179, Value.int IntKind.i64 n180, Value.int IntKind.i64 n181, Value.int IntKind.i64 n182, Value.int IntKind.i64 n183, Value.int IntKind.i64 n184, Value.string s185, Value.string s186, Value.int IntKind.i64 n187, Value.int IntKind.i64 n188, Value.string s189, Value.int IntKind.i64 n190, Value.int IntKind.i64 n191, Value.int IntKind.i64 n192, Value.int IntKind.i64 n193, Value.int IntKind.i64 n194, Value.int IntKind.i64 n195, Value.int IntKind.i64 n196, Value.string s197, Value.string s198, Value.int IntKind.i64 n199, Value.int IntKind.i64 n200, Value.slice p201 k202 k203, Value.int IntKind.i64 n204, Value.int IntKind.i64 n205, Value.int IntKind.i64 n206, Value.int IntKind.i64 n207], Value.agg #[Value.int IntKind.i64 n144, Value.int IntKind.i64 n145, Value.int IntKind.i64 n146, Value.int IntKind.i64 n147, Value.int IntKind.i64 n148, Value.int IntKind.i64 n149, Value.int IntKind.i64 n150, Value.int IntKind.i64 n151, Value.string s152, Value.string s153, Value.int IntKind.i64 n154, Value.int IntKind.i64 n155, Value.string s156, Value.int IntKind.i64 n157, Value.int IntKind.i64 n158, Value.int IntKind.i64 n159, Value.int IntKind.i64 n160, Value.int IntKind.i64 n161, Value.int IntKind.i64 n162, Value.int IntKind.i64 n163, Value.string s164, Value.string s165, Value.int IntKind.i64 n166, Value.int IntKind.i64 n167, Value.slice p168 k169 k170, Value.int IntKind.i64 n171, Value.int IntKind.i64 n172, Value.int IntKind.i64 n173, Value.int IntKind.i64 n174]] w176 fun e208 w209 =>
       ∃ b210 : Bool,
       (
        e208 = Ending.returned (Value.bool b210)) ∧
       Br (b210)
        (
         Ca Try.prog (44 : Nat) #[] w209 fun e211 w212 =>
         ∃ b213 : Bool,
         (
          e211 = Ending.returned (Value.bool b213)) ∧
         R (Ending.returned (Value.bool b213)) w212)
        (
         R (Ending.returned (Value.bool false)) w209))
      (
       R (Ending.returned (Value.bool false)) w111)))
theorem lawFForm_ok (s1 : ByteArray) (w : World) (R : Ending → World → Prop) (h : lawFForm s1 w R) : Ca Try.prog 13 #[Value.string s1] w R :=
  Ca.of_fvc (c := bodyOf Try.f13) (by kernel_rfl) Try.func13 (by kernel_rfl) [] (Eq.mp (by kernel_rfl) h)

end Go.Proofs.Ytbdhdjbdooccoaa
