/- The verification conditions of this seat's functions, printed by a program; the kernel holds each against the loaded code. -/
import Derived.Test.YtbdhdjbdooccoaaProg
import Derived.KernelRfl
import Derived.Test.YtbdhdjbdooccoaaV5
set_option maxRecDepth 100000
namespace Go.Proofs.Ytbdhdjbdooccoaa
open Go Go.Vc Go.Proofs
def lawFGet (s1 : ByteArray) (w : World) (R : Ending → World → Prop) : Prop :=
 Br (decide ((↑s1.size : Int) > (700 : Int)))
 (
 Ca Try.prog (44 : Nat) #[] w fun e2 w3 =>
 ∃ b4 : Bool,
 (
 e2 = Ending.returned (Value.bool b4)) ∧
 R (Ending.returned (Value.bool b4)) w3)
 (
 Ca Try.prog (45 : Nat) #[Value.string s1] w fun e5 w6 =>
 ∃ n7 : Int,
 ∃ n8 : Int,
 ∃ n9 : Int,
 ∃ n10 : Int,
 ∃ n11 : Int,
 ∃ n12 : Int,
 ∃ n13 : Int,
 ∃ n14 : Int,
 ∃ s15 : ByteArray,
 ∃ s16 : ByteArray,
 ∃ n17 : Int,
 ∃ n18 : Int,
 ∃ s19 : ByteArray,
 ∃ n20 : Int,
 ∃ n21 : Int,
 ∃ n22 : Int,
 ∃ n23 : Int,
 ∃ n24 : Int,
 ∃ n25 : Int,
 ∃ n26 : Int,
 ∃ s27 : ByteArray,
 ∃ s28 : ByteArray,
 ∃ n29 : Int,
 ∃ n30 : Int,
 ∃ p31 : Option Addr,
 ∃ k32 : Nat,
 ∃ k33 : Nat,
 ∃ n34 : Int,
 ∃ n35 : Int,
 ∃ n36 : Int,
 ∃ n37 : Int,
 ∃ n38 : Int,
 (
 e5 = Ending.returned (Value.tuple #[Value.agg #[Value.int IntKind.i64 n7, Value.int IntKind.i64 n8, Value.int IntKind.i64 n9, Value.int IntKind.i64 n10, Value.int IntKind.i64 n11, Value.int IntKind.i64 n12, Value.int IntKind.i64 n13, Value.int IntKind.i64 n14, Value.string s15, Value.string s16, Value.int IntKind.i64 n17, Value.int IntKind.i64 n18, Value.string s19, Value.int IntKind.i64 n20, Value.int IntKind.i64 n21, Value.int IntKind.i64 n22, Value.int IntKind.i64 n23, Value.int IntKind.i64 n24, Value.int IntKind.i64 n25, Value.int IntKind.i64 n26, Value.string s27, Value.string s28, Value.int IntKind.i64 n29, Value.int IntKind.i64 n30, Value.slice p31 k32 k33, Value.int IntKind.i64 n34, Value.int IntKind.i64 n35, Value.int IntKind.i64 n36, Value.int IntKind.i64 n37], Value.int IntKind.i64 n38])) ∧
 LetA (Obj.cells #[Value.int IntKind.i64 (0 : Int), Value.int IntKind.i64 (0 : Int), Value.int IntKind.i64 (0 : Int), Value.int IntKind.i64 (0 : Int), Value.int IntKind.i64 (0 : Int), Value.int IntKind.i64 (0 : Int), Value.int IntKind.i64 (0 : Int), Value.int IntKind.i64 (0 : Int), Value.string { data := #[] }, Value.string { data := #[] }, Value.int IntKind.i64 (0 : Int), Value.int IntKind.i64 (0 : Int), Value.string { data := #[] }, Value.int IntKind.i64 (0 : Int), Value.int IntKind.i64 (0 : Int), Value.int IntKind.i64 (0 : Int), Value.int IntKind.i64 (0 : Int), Value.int IntKind.i64 (0 : Int), Value.int IntKind.i64 (0 : Int), Value.int IntKind.i64 (0 : Int), Value.string { data := #[] }, Value.string { data := #[] }, Value.int IntKind.i64 (0 : Int), Value.int IntKind.i64 (0 : Int), Value.slice none (0 : Nat) (0 : Nat), Value.int IntKind.i64 (0 : Int), Value.int IntKind.i64 (0 : Int), Value.int IntKind.i64 (0 : Int), Value.int IntKind.i64 (0 : Int)] (58 : Nat)) w6 fun b39 w40 =>
 (
 WrRow w40 { block := b39, off := (0 : Nat) } (0 : Nat) [Value.int IntKind.i64 n7, Value.int IntKind.i64 n8, Value.int IntKind.i64 n9, Value.int IntKind.i64 n10, Value.int IntKind.i64 n11, Value.int IntKind.i64 n12, Value.int IntKind.i64 n13, Value.int IntKind.i64 n14, Value.string s15, Value.string s16, Value.int IntKind.i64 n17, Value.int IntKind.i64 n18, Value.string s19, Value.int IntKind.i64 n20, Value.int IntKind.i64 n21, Value.int IntKind.i64 n22, Value.int IntKind.i64 n23, Value.int IntKind.i64 n24, Value.int IntKind.i64 n25, Value.int IntKind.i64 n26, Value.string s27, Value.string s28, Value.int IntKind.i64 n29, Value.int IntKind.i64 n30, Value.slice p31 k32 k33, Value.int IntKind.i64 n34, Value.int IntKind.i64 n35, Value.int IntKind.i64 n36, Value.int IntKind.i64 n37]) ∧
 LetW (setRow w40 { block := b39, off := (0 : Nat) } (0 : Nat) [Value.int IntKind.i64 n7, Value.int IntKind.i64 n8, Value.int IntKind.i64 n9, Value.int IntKind.i64 n10, Value.int IntKind.i64 n11, Value.int IntKind.i64 n12, Value.int IntKind.i64 n13, Value.int IntKind.i64 n14, Value.string s15, Value.string s16, Value.int IntKind.i64 n17, Value.int IntKind.i64 n18, Value.string s19, Value.int IntKind.i64 n20, Value.int IntKind.i64 n21, Value.int IntKind.i64 n22, Value.int IntKind.i64 n23, Value.int IntKind.i64 n24, Value.int IntKind.i64 n25, Value.int IntKind.i64 n26, Value.string s27, Value.string s28, Value.int IntKind.i64 n29, Value.int IntKind.i64 n30, Value.slice p31 k32 k33, Value.int IntKind.i64 n34, Value.int IntKind.i64 n35, Value.int IntKind.i64 n36, Value.int IntKind.i64 n37]) fun w41 =>
 Ca Try.prog (46 : Nat) #[Value.string s1] w41 fun e42 w43 =>
 ∃ n44 : Int,
 ∃ n45 : Int,
 ∃ n46 : Int,
 ∃ n47 : Int,
 ∃ n48 : Int,
 ∃ n49 : Int,
 ∃ n50 : Int,
 ∃ n51 : Int,
 ∃ s52 : ByteArray,
 ∃ s53 : ByteArray,
 ∃ n54 : Int,
 ∃ n55 : Int,
 ∃ s56 : ByteArray,
 ∃ n57 : Int,
 ∃ n58 : Int,
 ∃ n59 : Int,
 ∃ n60 : Int,
 ∃ n61 : Int,
 ∃ n62 : Int,
 ∃ n63 : Int,
 ∃ s64 : ByteArray,
 ∃ s65 : ByteArray,
 ∃ n66 : Int,
 ∃ n67 : Int,
 ∃ p68 : Option Addr,
 ∃ k69 : Nat,
 ∃ k70 : Nat,
 ∃ n71 : Int,
 ∃ n72 : Int,
 ∃ n73 : Int,
 ∃ n74 : Int,
 ∃ n75 : Int,
 (
 e42 = Ending.returned (Value.tuple #[Value.agg #[Value.int IntKind.i64 n44, Value.int IntKind.i64 n45, Value.int IntKind.i64 n46, Value.int IntKind.i64 n47, Value.int IntKind.i64 n48, Value.int IntKind.i64 n49, Value.int IntKind.i64 n50, Value.int IntKind.i64 n51, Value.string s52, Value.string s53, Value.int IntKind.i64 n54, Value.int IntKind.i64 n55, Value.string s56, Value.int IntKind.i64 n57, Value.int IntKind.i64 n58, Value.int IntKind.i64 n59, Value.int IntKind.i64 n60, Value.int IntKind.i64 n61, Value.int IntKind.i64 n62, Value.int IntKind.i64 n63, Value.string s64, Value.string s65, Value.int IntKind.i64 n66, Value.int IntKind.i64 n67, Value.slice p68 k69 k70, Value.int IntKind.i64 n71, Value.int IntKind.i64 n72, Value.int IntKind.i64 n73, Value.int IntKind.i64 n74], Value.int IntKind.i64 n75])) ∧
 LetA (Obj.cells #[Value.int IntKind.i64 (0 : Int), Value.int IntKind.i64 (0 : Int), Value.int IntKind.i64 (0 : Int), Value.int IntKind.i64 (0 : Int), Value.int IntKind.i64 (0 : Int), Value.int IntKind.i64 (0 : Int), Value.int IntKind.i64 (0 : Int), Value.int IntKind.i64 (0 : Int), Value.string { data := #[] }, Value.string { data := #[] }, Value.int IntKind.i64 (0 : Int), Value.int IntKind.i64 (0 : Int), Value.string { data := #[] }, Value.int IntKind.i64 (0 : Int), Value.int IntKind.i64 (0 : Int), Value.int IntKind.i64 (0 : Int), Value.int IntKind.i64 (0 : Int), Value.int IntKind.i64 (0 : Int), Value.int IntKind.i64 (0 : Int), Value.int IntKind.i64 (0 : Int), Value.string { data := #[] }, Value.string { data := #[] }, Value.int IntKind.i64 (0 : Int), Value.int IntKind.i64 (0 : Int), Value.slice none (0 : Nat) (0 : Nat), Value.int IntKind.i64 (0 : Int), Value.int IntKind.i64 (0 : Int), Value.int IntKind.i64 (0 : Int), Value.int IntKind.i64 (0 : Int)] (58 : Nat)) w43 fun b76 w77 =>
 (
 WrRow w77 { block := b76, off := (0 : Nat) } (0 : Nat) [Value.int IntKind.i64 n44, Value.int IntKind.i64 n45, Value.int IntKind.i64 n46, Value.int IntKind.i64 n47, Value.int IntKind.i64 n48, Value.int IntKind.i64 n49, Value.int IntKind.i64 n50, Value.int IntKind.i64 n51, Value.string s52, Value.string s53, Value.int IntKind.i64 n54, Value.int IntKind.i64 n55, Value.string s56, Value.int IntKind.i64 n57, Value.int IntKind.i64 n58, Value.int IntKind.i64 n59, Value.int IntKind.i64 n60, Value.int IntKind.i64 n61, Value.int IntKind.i64 n62, Value.int IntKind.i64 n63, Value.string s64, Value.string s65, Value.int IntKind.i64 n66, Value.int IntKind.i64 n67, Value.slice p68 k69 k70, Value.int IntKind.i64 n71, Value.int IntKind.i64 n72, Value.int IntKind.i64 n73, Value.int IntKind.i64 n74]) ∧
 LetW (setRow w77 { block := b76, off := (0 : Nat) } (0 : Nat) [Value.int IntKind.i64 n44, Value.int IntKind.i64 n45, Value.int IntKind.i64 n46, Value.int IntKind.i64 n47, Value.int IntKind.i64 n48, Value.int IntKind.i64 n49, Value.int IntKind.i64 n50, Value.int IntKind.i64 n51, Value.string s52, Value.string s53, Value.int IntKind.i64 n54, Value.int IntKind.i64 n55, Value.string s56, Value.int IntKind.i64 n57, Value.int IntKind.i64 n58, Value.int IntKind.i64 n59, Value.int IntKind.i64 n60, Value.int IntKind.i64 n61, Value.int IntKind.i64 n62, Value.int IntKind.i64 n63, Value.string s64, Value.string s65, Value.int IntKind.i64 n66, Value.int IntKind.i64 n67, Value.slice p68 k69 k70, Value.int IntKind.i64 n71, Value.int IntKind.i64 n72, Value.int IntKind.i64 n73, Value.int IntKind.i64 n74]) fun w78 =>
 ∃ n79 : Int,
 ∃ n80 : Int,
 ∃ n81 : Int,
 ∃ n82 : Int,
 ∃ n83 : Int,
 ∃ n84 : Int,
 ∃ n85 : Int,
 ∃ n86 : Int,
 ∃ s87 : ByteArray,
 ∃ s88 : ByteArray,
 ∃ n89 : Int,
 ∃ n90 : Int,
 ∃ s91 : ByteArray,
 ∃ n92 : Int,
 ∃ n93 : Int,
 ∃ n94 : Int,
 ∃ n95 : Int,
 ∃ n96 : Int,
 ∃ n97 : Int,
 ∃ n98 : Int,
 ∃ s99 : ByteArray,
 ∃ s100 : ByteArray,
 ∃ n101 : Int,
 ∃ n102 : Int,
 ∃ p103 : Option Addr,
 ∃ k104 : Nat,
 ∃ k105 : Nat,
 ∃ n106 : Int,
 ∃ n107 : Int,
 ∃ n108 : Int,
 ∃ n109 : Int,
 (
 Row w78 { block := b39, off := (0 : Nat) } (0 : Nat) [Value.int IntKind.i64 n79, Value.int IntKind.i64 n80, Value.int IntKind.i64 n81, Value.int IntKind.i64 n82, Value.int IntKind.i64 n83, Value.int IntKind.i64 n84, Value.int IntKind.i64 n85, Value.int IntKind.i64 n86, Value.string s87, Value.string s88, Value.int IntKind.i64 n89, Value.int IntKind.i64 n90, Value.string s91, Value.int IntKind.i64 n92, Value.int IntKind.i64 n93, Value.int IntKind.i64 n94, Value.int IntKind.i64 n95, Value.int IntKind.i64 n96, Value.int IntKind.i64 n97, Value.int IntKind.i64 n98, Value.string s99, Value.string s100, Value.int IntKind.i64 n101, Value.int IntKind.i64 n102, Value.slice p103 k104 k105, Value.int IntKind.i64 n106, Value.int IntKind.i64 n107, Value.int IntKind.i64 n108, Value.int IntKind.i64 n109]) ∧
 ∃ n110 : Int,
 ∃ n111 : Int,
 ∃ n112 : Int,
 ∃ n113 : Int,
 ∃ n114 : Int,
 ∃ n115 : Int,
 ∃ n116 : Int,
 ∃ n117 : Int,
 ∃ s118 : ByteArray,
 ∃ s119 : ByteArray,
 ∃ n120 : Int,
 ∃ n121 : Int,
 ∃ s122 : ByteArray,
 ∃ n123 : Int,
 ∃ n124 : Int,
 ∃ n125 : Int,
 ∃ n126 : Int,
 ∃ n127 : Int,
 ∃ n128 : Int,
 ∃ n129 : Int,
 ∃ s130 : ByteArray,
 ∃ s131 : ByteArray,
 ∃ n132 : Int,
 ∃ n133 : Int,
 ∃ p134 : Option Addr,
 ∃ k135 : Nat,
 ∃ k136 : Nat,
 ∃ n137 : Int,
 ∃ n138 : Int,
 ∃ n139 : Int,
 ∃ n140 : Int,
 (
 Row w78 { block := b76, off := (0 : Nat) } (0 : Nat) [Value.int IntKind.i64 n110, Value.int IntKind.i64 n111, Value.int IntKind.i64 n112, Value.int IntKind.i64 n113, Value.int IntKind.i64 n114, Value.int IntKind.i64 n115, Value.int IntKind.i64 n116, Value.int IntKind.i64 n117, Value.string s118, Value.string s119, Value.int IntKind.i64 n120, Value.int IntKind.i64 n121, Value.string s122, Value.int IntKind.i64 n123, Value.int IntKind.i64 n124, Value.int IntKind.i64 n125, Value.int IntKind.i64 n126, Value.int IntKind.i64 n127, Value.int IntKind.i64 n128, Value.int IntKind.i64 n129, Value.string s130, Value.string s131, Value.int IntKind.i64 n132, Value.int IntKind.i64 n133, Value.slice p134 k135 k136, Value.int IntKind.i64 n137, Value.int IntKind.i64 n138, Value.int IntKind.i64 n139, Value.int IntKind.i64 n140]) ∧
 Ca Try.prog (47 : Nat) #[Value.agg #[Value.int IntKind.i64 n79, Value.int IntKind.i64 n80, Value.int IntKind.i64 n81, Value.int IntKind.i64 n82, Value.int IntKind.i64 n83, Value.int IntKind.i64 n84, Value.int IntKind.i64 n85, Value.int IntKind.i64 n86, Value.string s87, Value.string s88, Value.int IntKind.i64 n89, Value.int IntKind.i64 n90, Value.string s91, Value.int IntKind.i64 n92, Value.int IntKind.i64 n93, Value.int IntKind.i64 n94, Value.int IntKind.i64 n95, Value.int IntKind.i64 n96, Value.int IntKind.i64 n97, Value.int IntKind.i64 n98, Value.string s99, Value.string s100, Value.int IntKind.i64 n101, Value.int IntKind.i64 n102, Value.slice p103 k104 k105, Value.int IntKind.i64 n106, Value.int IntKind.i64 n107, Value.int IntKind.i64 n108, Value.int IntKind.i64 n109], Value.agg #[Value.int IntKind.i64 n110, Value.int IntKind.i64 n111, Value.int IntKind.i64 n112, Value.int IntKind.i64 n113, Value.int IntKind.i64 n114, Value.int IntKind.i64 n115, Value.int IntKind.i64 n116, Value.int IntKind.i64 n117, Value.string s118, Value.string s119, Value.int IntKind.i64 n120, Value.int IntKind.i64 n121, Value.string s122, Value.int IntKind.i64 n123, Value.int IntKind.i64 n124, Value.int IntKind.i64 n125, Value.int IntKind.i64 n126, Value.int IntKind.i64 n127, Value.int IntKind.i64 n128, Value.int IntKind.i64 n129, Value.string s130, Value.string s131, Value.int IntKind.i64 n132, Value.int IntKind.i64 n133, Value.slice p134 k135 k136, Value.int IntKind.i64 n137, Value.int IntKind.i64 n138, Value.int IntKind.i64 n139, Value.int IntKind.i64 n140]] w78 fun e141 w142 =>
 ∃ b143 : Bool,
 (
 e141 = Ending.returned (Value.bool b143)) ∧
 Br (b143)
 (
 Br (n38 == n75)
 (
 Ca Try.prog (44 : Nat) #[] w142 fun e144 w145 =>
 ∃ b146 : Bool,
 (
 e144 = Ending.returned (Value.bool b146)) ∧
 R (Ending.returned (Value.bool b146)) w145)
 (
 R (Ending.returned (Value.bool false)) w142))
 (
 R (Ending.returned (Value.bool false)) w142))
theorem lawFGet_ok (s1 : ByteArray) (w : World) (R : Ending → World → Prop) (h : lawFGet s1 w R) : Ca Try.prog 11 #[Value.string s1] w R :=
 Ca.of_fvc (c := bodyOf Try.f11) (by kernel_rfl) Try.func11 (by kernel_rfl) [] (Eq.mp (by kernel_rfl) h)

def lawFForm (s1 : ByteArray) (w : World) (R : Ending → World → Prop) : Prop :=
 Br (decide ((↑s1.size : Int) > (700 : Int)))
 (
 Ca Try.prog (44 : Nat) #[] w fun e2 w3 =>
 ∃ b4 : Bool,
 (
 e2 = Ending.returned (Value.bool b4)) ∧
 R (Ending.returned (Value.bool b4)) w3)
 (
 Ca Try.prog (45 : Nat) #[Value.string s1] w fun e5 w6 =>
 ∃ n7 : Int,
 ∃ n8 : Int,
 ∃ n9 : Int,
 ∃ n10 : Int,
 ∃ n11 : Int,
 ∃ n12 : Int,
 ∃ n13 : Int,
 ∃ n14 : Int,
 ∃ s15 : ByteArray,
 ∃ s16 : ByteArray,
 ∃ n17 : Int,
 ∃ n18 : Int,
 ∃ s19 : ByteArray,
 ∃ n20 : Int,
 ∃ n21 : Int,
 ∃ n22 : Int,
 ∃ n23 : Int,
 ∃ n24 : Int,
 ∃ n25 : Int,
 ∃ n26 : Int,
 ∃ s27 : ByteArray,
 ∃ s28 : ByteArray,
 ∃ n29 : Int,
 ∃ n30 : Int,
 ∃ p31 : Option Addr,
 ∃ k32 : Nat,
 ∃ k33 : Nat,
 ∃ n34 : Int,
 ∃ n35 : Int,
 ∃ n36 : Int,
 ∃ n37 : Int,
 ∃ n38 : Int,
 (
 e5 = Ending.returned (Value.tuple #[Value.agg #[Value.int IntKind.i64 n7, Value.int IntKind.i64 n8, Value.int IntKind.i64 n9, Value.int IntKind.i64 n10, Value.int IntKind.i64 n11, Value.int IntKind.i64 n12, Value.int IntKind.i64 n13, Value.int IntKind.i64 n14, Value.string s15, Value.string s16, Value.int IntKind.i64 n17, Value.int IntKind.i64 n18, Value.string s19, Value.int IntKind.i64 n20, Value.int IntKind.i64 n21, Value.int IntKind.i64 n22, Value.int IntKind.i64 n23, Value.int IntKind.i64 n24, Value.int IntKind.i64 n25, Value.int IntKind.i64 n26, Value.string s27, Value.string s28, Value.int IntKind.i64 n29, Value.int IntKind.i64 n30, Value.slice p31 k32 k33, Value.int IntKind.i64 n34, Value.int IntKind.i64 n35, Value.int IntKind.i64 n36, Value.int IntKind.i64 n37], Value.int IntKind.i64 n38])) ∧
 LetA (Obj.cells #[Value.int IntKind.i64 (0 : Int), Value.int IntKind.i64 (0 : Int), Value.int IntKind.i64 (0 : Int), Value.int IntKind.i64 (0 : Int), Value.int IntKind.i64 (0 : Int), Value.int IntKind.i64 (0 : Int), Value.int IntKind.i64 (0 : Int), Value.int IntKind.i64 (0 : Int), Value.string { data := #[] }, Value.string { data := #[] }, Value.int IntKind.i64 (0 : Int), Value.int IntKind.i64 (0 : Int), Value.string { data := #[] }, Value.int IntKind.i64 (0 : Int), Value.int IntKind.i64 (0 : Int), Value.int IntKind.i64 (0 : Int), Value.int IntKind.i64 (0 : Int), Value.int IntKind.i64 (0 : Int), Value.int IntKind.i64 (0 : Int), Value.int IntKind.i64 (0 : Int), Value.string { data := #[] }, Value.string { data := #[] }, Value.int IntKind.i64 (0 : Int), Value.int IntKind.i64 (0 : Int), Value.slice none (0 : Nat) (0 : Nat), Value.int IntKind.i64 (0 : Int), Value.int IntKind.i64 (0 : Int), Value.int IntKind.i64 (0 : Int), Value.int IntKind.i64 (0 : Int)] (58 : Nat)) w6 fun b39 w40 =>
 (
 WrRow w40 { block := b39, off := (0 : Nat) } (0 : Nat) [Value.int IntKind.i64 n7, Value.int IntKind.i64 n8, Value.int IntKind.i64 n9, Value.int IntKind.i64 n10, Value.int IntKind.i64 n11, Value.int IntKind.i64 n12, Value.int IntKind.i64 n13, Value.int IntKind.i64 n14, Value.string s15, Value.string s16, Value.int IntKind.i64 n17, Value.int IntKind.i64 n18, Value.string s19, Value.int IntKind.i64 n20, Value.int IntKind.i64 n21, Value.int IntKind.i64 n22, Value.int IntKind.i64 n23, Value.int IntKind.i64 n24, Value.int IntKind.i64 n25, Value.int IntKind.i64 n26, Value.string s27, Value.string s28, Value.int IntKind.i64 n29, Value.int IntKind.i64 n30, Value.slice p31 k32 k33, Value.int IntKind.i64 n34, Value.int IntKind.i64 n35, Value.int IntKind.i64 n36, Value.int IntKind.i64 n37]) ∧
 LetW (setRow w40 { block := b39, off := (0 : Nat) } (0 : Nat) [Value.int IntKind.i64 n7, Value.int IntKind.i64 n8, Value.int IntKind.i64 n9, Value.int IntKind.i64 n10, Value.int IntKind.i64 n11, Value.int IntKind.i64 n12, Value.int IntKind.i64 n13, Value.int IntKind.i64 n14, Value.string s15, Value.string s16, Value.int IntKind.i64 n17, Value.int IntKind.i64 n18, Value.string s19, Value.int IntKind.i64 n20, Value.int IntKind.i64 n21, Value.int IntKind.i64 n22, Value.int IntKind.i64 n23, Value.int IntKind.i64 n24, Value.int IntKind.i64 n25, Value.int IntKind.i64 n26, Value.string s27, Value.string s28, Value.int IntKind.i64 n29, Value.int IntKind.i64 n30, Value.slice p31 k32 k33, Value.int IntKind.i64 n34, Value.int IntKind.i64 n35, Value.int IntKind.i64 n36, Value.int IntKind.i64 n37]) fun w41 =>
 Br (n38 != (0 : Int))
 (
 Br (n38 == (10 : Int))
 (
 ∃ n42 : Int,
 ∃ n43 : Int,
 ∃ n44 : Int,
 ∃ n45 : Int,
 ∃ n46 : Int,
 ∃ n47 : Int,
 ∃ n48 : Int,
 ∃ n49 : Int,
 ∃ s50 : ByteArray,
 ∃ s51 : ByteArray,
 ∃ n52 : Int,
 ∃ n53 : Int,
 ∃ s54 : ByteArray,
 ∃ n55 : Int,
 ∃ n56 : Int,
 ∃ n57 : Int,
 ∃ n58 : Int,
 ∃ n59 : Int,
 ∃ n60 : Int,
 ∃ n61 : Int,
 ∃ s62 : ByteArray,
 ∃ s63 : ByteArray,
 ∃ n64 : Int,
 ∃ n65 : Int,
 ∃ p66 : Option Addr,
 ∃ k67 : Nat,
 ∃ k68 : Nat,
 ∃ n69 : Int,
 ∃ n70 : Int,
 ∃ n71 : Int,
 ∃ n72 : Int,
 (
 Row w41 { block := b39, off := (0 : Nat) } (0 : Nat) [Value.int IntKind.i64 n42, Value.int IntKind.i64 n43, Value.int IntKind.i64 n44, Value.int IntKind.i64 n45, Value.int IntKind.i64 n46, Value.int IntKind.i64 n47, Value.int IntKind.i64 n48, Value.int IntKind.i64 n49, Value.string s50, Value.string s51, Value.int IntKind.i64 n52, Value.int IntKind.i64 n53, Value.string s54, Value.int IntKind.i64 n55, Value.int IntKind.i64 n56, Value.int IntKind.i64 n57, Value.int IntKind.i64 n58, Value.int IntKind.i64 n59, Value.int IntKind.i64 n60, Value.int IntKind.i64 n61, Value.string s62, Value.string s63, Value.int IntKind.i64 n64, Value.int IntKind.i64 n65, Value.slice p66 k67 k68, Value.int IntKind.i64 n69, Value.int IntKind.i64 n70, Value.int IntKind.i64 n71, Value.int IntKind.i64 n72]) ∧
 Ca Try.prog (51 : Nat) #[Value.agg #[Value.int IntKind.i64 n42, Value.int IntKind.i64 n43, Value.int IntKind.i64 n44, Value.int IntKind.i64 n45, Value.int IntKind.i64 n46, Value.int IntKind.i64 n47, Value.int IntKind.i64 n48, Value.int IntKind.i64 n49, Value.string s50, Value.string s51, Value.int IntKind.i64 n52, Value.int IntKind.i64 n53, Value.string s54, Value.int IntKind.i64 n55, Value.int IntKind.i64 n56, Value.int IntKind.i64 n57, Value.int IntKind.i64 n58, Value.int IntKind.i64 n59, Value.int IntKind.i64 n60, Value.int IntKind.i64 n61, Value.string s62, Value.string s63, Value.int IntKind.i64 n64, Value.int IntKind.i64 n65, Value.slice p66 k67 k68, Value.int IntKind.i64 n69, Value.int IntKind.i64 n70, Value.int IntKind.i64 n71, Value.int IntKind.i64 n72], Value.agg #[Value.int IntKind.i64 (0 : Int), Value.int IntKind.i64 (0 : Int), Value.int IntKind.i64 (0 : Int), Value.int IntKind.i64 (0 : Int), Value.int IntKind.i64 (0 : Int), Value.int IntKind.i64 (0 : Int), Value.int IntKind.i64 (0 : Int), Value.int IntKind.i64 (0 : Int), Value.string { data := #[] }, Value.string { data := #[] }, Value.int IntKind.i64 (0 : Int), Value.int IntKind.i64 (0 : Int), Value.string { data := #[] }, Value.int IntKind.i64 (0 : Int), Value.int IntKind.i64 (0 : Int), Value.int IntKind.i64 (0 : Int), Value.int IntKind.i64 (0 : Int), Value.int IntKind.i64 (0 : Int), Value.int IntKind.i64 (0 : Int), Value.int IntKind.i64 (0 : Int), Value.string { data := #[] }, Value.string { data := #[] }, Value.int IntKind.i64 (0 : Int), Value.int IntKind.i64 (0 : Int), Value.slice none (0 : Nat) (0 : Nat), Value.int IntKind.i64 (0 : Int), Value.int IntKind.i64 (0 : Int), Value.int IntKind.i64 (0 : Int), Value.int IntKind.i64 (0 : Int)]] w41 fun e73 w74 =>
 ∃ b75 : Bool,
 (
 e73 = Ending.returned (Value.bool b75)) ∧
 Br (b75)
 (
 Ca Try.prog (44 : Nat) #[] w74 fun e76 w77 =>
 ∃ b78 : Bool,
 (
 e76 = Ending.returned (Value.bool b78)) ∧
 R (Ending.returned (Value.bool b78)) w77)
 (
 R (Ending.returned (Value.bool false)) w74))
 (
 R (Ending.returned (Value.bool false)) w41))
 (
 ∃ n79 : Int,
 ∃ n80 : Int,
 ∃ n81 : Int,
 ∃ n82 : Int,
 ∃ n83 : Int,
 ∃ n84 : Int,
 ∃ n85 : Int,
 ∃ n86 : Int,
 ∃ s87 : ByteArray,
 ∃ s88 : ByteArray,
 ∃ n89 : Int,
 ∃ n90 : Int,
 ∃ s91 : ByteArray,
 ∃ n92 : Int,
 ∃ n93 : Int,
 ∃ n94 : Int,
 ∃ n95 : Int,
 ∃ n96 : Int,
 ∃ n97 : Int,
 ∃ n98 : Int,
 ∃ s99 : ByteArray,
 ∃ s100 : ByteArray,
 ∃ n101 : Int,
 ∃ n102 : Int,
 ∃ p103 : Option Addr,
 ∃ k104 : Nat,
 ∃ k105 : Nat,
 ∃ n106 : Int,
 ∃ n107 : Int,
 ∃ n108 : Int,
 ∃ n109 : Int,
 (
 Row w41 { block := b39, off := (0 : Nat) } (0 : Nat) [Value.int IntKind.i64 n79, Value.int IntKind.i64 n80, Value.int IntKind.i64 n81, Value.int IntKind.i64 n82, Value.int IntKind.i64 n83, Value.int IntKind.i64 n84, Value.int IntKind.i64 n85, Value.int IntKind.i64 n86, Value.string s87, Value.string s88, Value.int IntKind.i64 n89, Value.int IntKind.i64 n90, Value.string s91, Value.int IntKind.i64 n92, Value.int IntKind.i64 n93, Value.int IntKind.i64 n94, Value.int IntKind.i64 n95, Value.int IntKind.i64 n96, Value.int IntKind.i64 n97, Value.int IntKind.i64 n98, Value.string s99, Value.string s100, Value.int IntKind.i64 n101, Value.int IntKind.i64 n102, Value.slice p103 k104 k105, Value.int IntKind.i64 n106, Value.int IntKind.i64 n107, Value.int IntKind.i64 n108, Value.int IntKind.i64 n109]) ∧
 Ca Try.prog (52 : Nat) #[Value.agg #[Value.int IntKind.i64 n79, Value.int IntKind.i64 n80, Value.int IntKind.i64 n81, Value.int IntKind.i64 n82, Value.int IntKind.i64 n83, Value.int IntKind.i64 n84, Value.int IntKind.i64 n85, Value.int IntKind.i64 n86, Value.string s87, Value.string s88, Value.int IntKind.i64 n89, Value.int IntKind.i64 n90, Value.string s91, Value.int IntKind.i64 n92, Value.int IntKind.i64 n93, Value.int IntKind.i64 n94, Value.int IntKind.i64 n95, Value.int IntKind.i64 n96, Value.int IntKind.i64 n97, Value.int IntKind.i64 n98, Value.string s99, Value.string s100, Value.int IntKind.i64 n101, Value.int IntKind.i64 n102, Value.slice p103 k104 k105, Value.int IntKind.i64 n106, Value.int IntKind.i64 n107, Value.int IntKind.i64 n108, Value.int IntKind.i64 n109], Value.string s1] w41 fun e110 w111 =>
 ∃ b112 : Bool,
 (
 e110 = Ending.returned (Value.bool b112)) ∧
 Br (b112)
 (
 ∃ n113 : Int,
 ∃ n114 : Int,
 ∃ n115 : Int,
 ∃ n116 : Int,
 ∃ n117 : Int,
 ∃ n118 : Int,
 ∃ n119 : Int,
 ∃ n120 : Int,
 ∃ s121 : ByteArray,
 ∃ s122 : ByteArray,
 ∃ n123 : Int,
 ∃ n124 : Int,
 ∃ s125 : ByteArray,
 ∃ n126 : Int,
 ∃ n127 : Int,
 ∃ n128 : Int,
 ∃ n129 : Int,
 ∃ n130 : Int,
 ∃ n131 : Int,
 ∃ n132 : Int,
 ∃ s133 : ByteArray,
 ∃ s134 : ByteArray,
 ∃ n135 : Int,
 ∃ n136 : Int,
 ∃ p137 : Option Addr,
 ∃ k138 : Nat,
 ∃ k139 : Nat,
 ∃ n140 : Int,
 ∃ n141 : Int,
 ∃ n142 : Int,
 ∃ n143 : Int,
 (
 Row w111 { block := b39, off := (0 : Nat) } (0 : Nat) [Value.int IntKind.i64 n113, Value.int IntKind.i64 n114, Value.int IntKind.i64 n115, Value.int IntKind.i64 n116, Value.int IntKind.i64 n117, Value.int IntKind.i64 n118, Value.int IntKind.i64 n119, Value.int IntKind.i64 n120, Value.string s121, Value.string s122, Value.int IntKind.i64 n123, Value.int IntKind.i64 n124, Value.string s125, Value.int IntKind.i64 n126, Value.int IntKind.i64 n127, Value.int IntKind.i64 n128, Value.int IntKind.i64 n129, Value.int IntKind.i64 n130, Value.int IntKind.i64 n131, Value.int IntKind.i64 n132, Value.string s133, Value.string s134, Value.int IntKind.i64 n135, Value.int IntKind.i64 n136, Value.slice p137 k138 k139, Value.int IntKind.i64 n140, Value.int IntKind.i64 n141, Value.int IntKind.i64 n142, Value.int IntKind.i64 n143]) ∧
 ∃ n144 : Int,
 ∃ n145 : Int,
 ∃ n146 : Int,
 ∃ n147 : Int,
 ∃ n148 : Int,
 ∃ n149 : Int,
 ∃ n150 : Int,
 ∃ n151 : Int,
 ∃ s152 : ByteArray,
 ∃ s153 : ByteArray,
 ∃ n154 : Int,
 ∃ n155 : Int,
 ∃ s156 : ByteArray,
 ∃ n157 : Int,
 ∃ n158 : Int,
 ∃ n159 : Int,
 ∃ n160 : Int,
 ∃ n161 : Int,
 ∃ n162 : Int,
 ∃ n163 : Int,
 ∃ s164 : ByteArray,
 ∃ s165 : ByteArray,
 ∃ n166 : Int,
 ∃ n167 : Int,
 ∃ p168 : Option Addr,
 ∃ k169 : Nat,
 ∃ k170 : Nat,
 ∃ n171 : Int,
 ∃ n172 : Int,
 ∃ n173 : Int,
 ∃ n174 : Int,
 (
 Row w111 { block := b39, off := (0 : Nat) } (0 : Nat) [Value.int IntKind.i64 n144, Value.int IntKind.i64 n145, Value.int IntKind.i64 n146, Value.int IntKind.i64 n147, Value.int IntKind.i64 n148, Value.int IntKind.i64 n149, Value.int IntKind.i64 n150, Value.int IntKind.i64 n151, Value.string s152, Value.string s153, Value.int IntKind.i64 n154, Value.int IntKind.i64 n155, Value.string s156, Value.int IntKind.i64 n157, Value.int IntKind.i64 n158, Value.int IntKind.i64 n159, Value.int IntKind.i64 n160, Value.int IntKind.i64 n161, Value.int IntKind.i64 n162, Value.int IntKind.i64 n163, Value.string s164, Value.string s165, Value.int IntKind.i64 n166, Value.int IntKind.i64 n167, Value.slice p168 k169 k170, Value.int IntKind.i64 n171, Value.int IntKind.i64 n172, Value.int IntKind.i64 n173, Value.int IntKind.i64 n174]) ∧
 Ca Try.prog (49 : Nat) #[Value.agg #[Value.int IntKind.i64 n113, Value.int IntKind.i64 n114, Value.int IntKind.i64 n115, Value.int IntKind.i64 n116, Value.int IntKind.i64 n117, Value.int IntKind.i64 n118, Value.int IntKind.i64 n119, Value.int IntKind.i64 n120, Value.string s121, Value.string s122, Value.int IntKind.i64 n123, Value.int IntKind.i64 n124, Value.string s125, Value.int IntKind.i64 n126, Value.int IntKind.i64 n127, Value.int IntKind.i64 n128, Value.int IntKind.i64 n129, Value.int IntKind.i64 n130, Value.int IntKind.i64 n131, Value.int IntKind.i64 n132, Value.string s133, Value.string s134, Value.int IntKind.i64 n135, Value.int IntKind.i64 n136, Value.slice p137 k138 k139, Value.int IntKind.i64 n140, Value.int IntKind.i64 n141, Value.int IntKind.i64 n142, Value.int IntKind.i64 n143]] w111 fun e175 w176 =>
 ∃ n177 : Int,
 ∃ n178 : Int,
 ∃ n179 : Int,
 ∃ n180 : Int,
 ∃ n181 : Int,
 ∃ n182 : Int,
 ∃ n183 : Int,
 ∃ n184 : Int,
 ∃ s185 : ByteArray,
 ∃ s186 : ByteArray,
 ∃ n187 : Int,
 ∃ n188 : Int,
 ∃ s189 : ByteArray,
 ∃ n190 : Int,
 ∃ n191 : Int,
 ∃ n192 : Int,
 ∃ n193 : Int,
 ∃ n194 : Int,
 ∃ n195 : Int,
 ∃ n196 : Int,
 ∃ s197 : ByteArray,
 ∃ s198 : ByteArray,
 ∃ n199 : Int,
 ∃ n200 : Int,
 ∃ p201 : Option Addr,
 ∃ k202 : Nat,
 ∃ k203 : Nat,
 ∃ n204 : Int,
 ∃ n205 : Int,
 ∃ n206 : Int,
 ∃ n207 : Int,
 (
 e175 = Ending.returned (Value.agg #[Value.int IntKind.i64 n177, Value.int IntKind.i64 n178, Value.int IntKind.i64 n179, Value.int IntKind.i64 n180, Value.int IntKind.i64 n181, Value.int IntKind.i64 n182, Value.int IntKind.i64 n183, Value.int IntKind.i64 n184, Value.string s185, Value.string s186, Value.int IntKind.i64 n187, Value.int IntKind.i64 n188, Value.string s189, Value.int IntKind.i64 n190, Value.int IntKind.i64 n191, Value.int IntKind.i64 n192, Value.int IntKind.i64 n193, Value.int IntKind.i64 n194, Value.int IntKind.i64 n195, Value.int IntKind.i64 n196, Value.string s197, Value.string s198, Value.int IntKind.i64 n199, Value.int IntKind.i64 n200, Value.slice p201 k202 k203, Value.int IntKind.i64 n204, Value.int IntKind.i64 n205, Value.int IntKind.i64 n206, Value.int IntKind.i64 n207])) ∧
 (
 Row w176 { block := b39, off := (0 : Nat) } (0 : Nat) [Value.int IntKind.i64 n144, Value.int IntKind.i64 n145, Value.int IntKind.i64 n146, Value.int IntKind.i64 n147, Value.int IntKind.i64 n148, Value.int IntKind.i64 n149, Value.int IntKind.i64 n150, Value.int IntKind.i64 n151, Value.string s152, Value.string s153, Value.int IntKind.i64 n154, Value.int IntKind.i64 n155, Value.string s156, Value.int IntKind.i64 n157, Value.int IntKind.i64 n158, Value.int IntKind.i64 n159, Value.int IntKind.i64 n160, Value.int IntKind.i64 n161, Value.int IntKind.i64 n162, Value.int IntKind.i64 n163, Value.string s164, Value.string s165, Value.int IntKind.i64 n166, Value.int IntKind.i64 n167, Value.slice p168 k169 k170, Value.int IntKind.i64 n171, Value.int IntKind.i64 n172, Value.int IntKind.i64 n173, Value.int IntKind.i64 n174]) ∧
 Ca Try.prog (51 : Nat) #[Value.agg #[Value.int IntKind.i64 n177, Value.int IntKind.i64 n178, Value.int IntKind.i64 n179, Value.int IntKind.i64 n180, Value.int IntKind.i64 n181, Value.int IntKind.i64 n182, Value.int IntKind.i64 n183, Value.int IntKind.i64 n184, Value.string s185, Value.string s186, Value.int IntKind.i64 n187, Value.int IntKind.i64 n188, Value.string s189, Value.int IntKind.i64 n190, Value.int IntKind.i64 n191, Value.int IntKind.i64 n192, Value.int IntKind.i64 n193, Value.int IntKind.i64 n194, Value.int IntKind.i64 n195, Value.int IntKind.i64 n196, Value.string s197, Value.string s198, Value.int IntKind.i64 n199, Value.int IntKind.i64 n200, Value.slice p201 k202 k203, Value.int IntKind.i64 n204, Value.int IntKind.i64 n205, Value.int IntKind.i64 n206, Value.int IntKind.i64 n207], Value.agg #[Value.int IntKind.i64 n144, Value.int IntKind.i64 n145, Value.int IntKind.i64 n146, Value.int IntKind.i64 n147, Value.int IntKind.i64 n148, Value.int IntKind.i64 n149, Value.int IntKind.i64 n150, Value.int IntKind.i64 n151, Value.string s152, Value.string s153, Value.int IntKind.i64 n154, Value.int IntKind.i64 n155, Value.string s156, Value.int IntKind.i64 n157, Value.int IntKind.i64 n158, Value.int IntKind.i64 n159, Value.int IntKind.i64 n160, Value.int IntKind.i64 n161, Value.int IntKind.i64 n162, Value.int IntKind.i64 n163, Value.string s164, Value.string s165, Value.int IntKind.i64 n166, Value.int IntKind.i64 n167, Value.slice p168 k169 k170, Value.int IntKind.i64 n171, Value.int IntKind.i64 n172, Value.int IntKind.i64 n173, Value.int IntKind.i64 n174]] w176 fun e208 w209 =>
 ∃ b210 : Bool,
 (
 e208 = Ending.returned (Value.bool b210)) ∧
 Br (b210)
 (
 Ca Try.prog (44 : Nat) #[] w209 fun e211 w212 =>
 ∃ b213 : Bool,
 (
 e211 = Ending.returned (Value.bool b213)) ∧
 R (Ending.returned (Value.bool b213)) w212)
 (
 R (Ending.returned (Value.bool false)) w209))
 (
 R (Ending.returned (Value.bool false)) w111)))
theorem lawFForm_ok (s1 : ByteArray) (w : World) (R : Ending → World → Prop) (h : lawFForm s1 w R) : Ca Try.prog 13 #[Value.string s1] w R :=
 Ca.of_fvc (c := bodyOf Try.f13) (by kernel_rfl) Try.func13 (by kernel_rfl) [] (Eq.mp (by kernel_rfl) h)

end Go.Proofs.Ytbdhdjbdooccoaa
