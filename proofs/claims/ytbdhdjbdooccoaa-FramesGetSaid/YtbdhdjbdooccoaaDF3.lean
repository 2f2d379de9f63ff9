/- The verification conditions of this seat's functions, printed by a program; the kernel holds each against the loaded code. -/
import Derived.Test.YtbdhdjbdooccoaaProg
import Derived.KernelRfl
import Derived.Test.YtbdhdjbdooccoaaV5
set_option maxRecDepth 100000
namespace Go.Proofs.Ytbdhdjbdooccoaa
open Go Go.Vc Go.Proofs
def rbehind (n1 : Int) (n2 : Int) (n3 : Int) (n4 : Int) (n5 : Int) (n6 : Int) (n7 : Int) (n8 : Int) (s9 : ByteArray) (s10 : ByteArray) (n11 : Int) (n12 : Int) (s13 : ByteArray) (n14 : Int) (n15 : Int) (n16 : Int) (n17 : Int) (n18 : Int) (n19 : Int) (n20 : Int) (s21 : ByteArray) (s22 : ByteArray) (n23 : Int) (n24 : Int) (p25 : Option Addr) (k26 : Nat) (k27 : Nat) (n28 : Int) (n29 : Int) (n30 : Int) (n31 : Int) (w : World) (R : Ending → World → Prop) : Prop :=
 LetA (Obj.cells #[Value.int IntKind.i64 n1, Value.int IntKind.i64 n2, Value.int IntKind.i64 n3, Value.int IntKind.i64 n4, Value.int IntKind.i64 n5, Value.int IntKind.i64 n6, Value.int IntKind.i64 n7, Value.int IntKind.i64 n8, Value.string s9, Value.string s10, Value.int IntKind.i64 n11, Value.int IntKind.i64 n12, Value.string s13, Value.int IntKind.i64 n14, Value.int IntKind.i64 n15, Value.int IntKind.i64 n16, Value.int IntKind.i64 n17, Value.int IntKind.i64 n18, Value.int IntKind.i64 n19, Value.int IntKind.i64 n20, Value.string s21, Value.string s22, Value.int IntKind.i64 n23, Value.int IntKind.i64 n24, Value.slice p25 k26 k27, Value.int IntKind.i64 n28, Value.int IntKind.i64 n29, Value.int IntKind.i64 n30, Value.int IntKind.i64 n31] (58 : Nat)) w fun b32 w33 =>
 ∃ n34 : Int,
 (
 w33.cell? { block := b32, off := (0 : Nat) } = some (Value.int IntKind.i64 n34)) ∧
 Br (n34 == (1 : Int))
 (
 ∃ n35 : Int,
 ∃ s36 : ByteArray,
 ∃ s37 : ByteArray,
 ∃ n38 : Int,
 (
 Row w33 { block := b32, off := (7 : Nat) } (0 : Nat) [Value.int IntKind.i64 n35, Value.string s36, Value.string s37, Value.int IntKind.i64 n38]) ∧
 Ca Try.prog (17 : Nat) #[Value.agg #[Value.int IntKind.i64 n35, Value.string s36, Value.string s37, Value.int IntKind.i64 n38]] w33 fun e39 w40 =>
 ∃ s41 : ByteArray,
 ∃ n42 : Int,
 (
 e39 = Ending.returned (Value.tuple #[Value.string s41, Value.int IntKind.i64 n42])) ∧
 R (Ending.returned (Value.tuple #[Value.string s41, Value.bool (n42 == (0 : Int))])) w40)
 (
 Br (n34 == (2 : Int))
 (
 ∃ n43 : Int,
 ∃ s44 : ByteArray,
 ∃ n45 : Int,
 ∃ n46 : Int,
 (
 Row w33 { block := b32, off := (11 : Nat) } (0 : Nat) [Value.int IntKind.i64 n43, Value.string s44, Value.int IntKind.i64 n45, Value.int IntKind.i64 n46]) ∧
 LetA (Obj.cells #[Value.int IntKind.i64 (0 : Int), Value.string { data := #[] }, Value.int IntKind.i64 (0 : Int), Value.int IntKind.i64 (0 : Int)] (54 : Nat)) w33 fun b47 w48 =>
 (
 WrRow w48 { block := b47, off := (0 : Nat) } (0 : Nat) [Value.int IntKind.i64 n43, Value.string s44, Value.int IntKind.i64 n45, Value.int IntKind.i64 n46]) ∧
 LetW (setRow w48 { block := b47, off := (0 : Nat) } (0 : Nat) [Value.int IntKind.i64 n43, Value.string s44, Value.int IntKind.i64 n45, Value.int IntKind.i64 n46]) fun w49 =>
 ∃ n50 : Int,
 (
 w49.cell? { block := b47, off := (0 : Nat) } = some (Value.int IntKind.i64 n50)) ∧
 Br (decide (n50 < (1 : Int)))
 (
 R (Ending.returned (Value.tuple #[Value.string { data := #[] }, Value.bool false])) w49)
 (
 ∃ n51 : Int,
 (
 w49.cell? { block := b47, off := (0 : Nat) } = some (Value.int IntKind.i64 n51)) ∧
 Br (decide (n51 > (3 : Int)))
 (
 R (Ending.returned (Value.tuple #[Value.string { data := #[] }, Value.bool false])) w49)
 (
 ∃ s52 : ByteArray,
 (
 w49.cell? { block := b47, off := (1 : Nat) } = some (Value.string s52)) ∧
 Br (decide ((↑s52.size : Int) > (64 : Int)))
 (
 R (Ending.returned (Value.tuple #[Value.string { data := #[] }, Value.bool false])) w49)
 (
 ∃ n53 : Int,
 (
 w49.cell? { block := b47, off := (2 : Nat) } = some (Value.int IntKind.i64 n53)) ∧
 ∃ n54 : Int,
 (
 w49.cell? { block := b47, off := (3 : Nat) } = some (Value.int IntKind.i64 n54)) ∧
 Ca Try.prog (102 : Nat) #[Value.int IntKind.i64 n53, Value.int IntKind.i64 n54, Value.int IntKind.i64 (0 : Int)] w49 fun e55 w56 =>
 ∃ b57 : Bool,
 (
 e55 = Ending.returned (Value.bool b57)) ∧
 Br (!b57)
 (
 R (Ending.returned (Value.tuple #[Value.string { data := #[] }, Value.bool false])) w56)
 (
 ∃ n58 : Int,
 (
 w56.cell? { block := b47, off := (0 : Nat) } = some (Value.int IntKind.i64 n58)) ∧
 ∃ s59 : ByteArray,
 (
 w56.cell? { block := b47, off := (1 : Nat) } = some (Value.string s59)) ∧
 ∃ n60 : Int,
 (
 w56.cell? { block := b47, off := (2 : Nat) } = some (Value.int IntKind.i64 n60)) ∧
 ∃ n61 : Int,
 (
 w56.cell? { block := b47, off := (3 : Nat) } = some (Value.int IntKind.i64 n61)) ∧
 Ca Try.prog (56 : Nat) #[Value.int IntKind.i64 n58] w56 fun e62 w63 =>
 ∃ s64 : ByteArray,
 (
 e62 = Ending.returned (Value.string s64)) ∧
 (
 w63.cell? { block := b47, off := (3 : Nat) } = some (Value.int IntKind.i64 n61)) ∧
 (
 w63.cell? { block := b47, off := (2 : Nat) } = some (Value.int IntKind.i64 n60)) ∧
 (
 w63.cell? { block := b47, off := (1 : Nat) } = some (Value.string s59)) ∧
 Ca Try.prog (57 : Nat) #[Value.string s59] w63 fun e65 w66 =>
 ∃ s67 : ByteArray,
 (
 e65 = Ending.returned (Value.string s67)) ∧
 (
 w66.cell? { block := b47, off := (3 : Nat) } = some (Value.int IntKind.i64 n61)) ∧
 (
 w66.cell? { block := b47, off := (2 : Nat) } = some (Value.int IntKind.i64 n60)) ∧
 (
 (↑(s64.size + s67.size) : Int) ≤ IntKind.i64.max) ∧
 Ca Try.prog (56 : Nat) #[Value.int IntKind.i64 n60] w66 fun e68 w69 =>
 ∃ s70 : ByteArray,
 (
 e68 = Ending.returned (Value.string s70)) ∧
 (
 w69.cell? { block := b47, off := (3 : Nat) } = some (Value.int IntKind.i64 n61)) ∧
 (
 (↑((s64 ++ s67).size + s70.size) : Int) ≤ IntKind.i64.max) ∧
 Ca Try.prog (56 : Nat) #[Value.int IntKind.i64 n61] w69 fun e71 w72 =>
 ∃ s73 : ByteArray,
 (
 e71 = Ending.returned (Value.string s73)) ∧
 (
 (↑((s64 ++ s67 ++ s70).size + s73.size) : Int) ≤ IntKind.i64.max) ∧
 R (Ending.returned (Value.tuple #[Value.string (s64 ++ s67 ++ s70 ++ s73), Value.bool true])) w72)))))
 (
 Br (n34 == (4 : Int))
 (
 ∃ n74 : Int,
 ∃ s75 : ByteArray,
 ∃ s76 : ByteArray,
 ∃ n77 : Int,
 (
 Row w33 { block := b32, off := (19 : Nat) } (0 : Nat) [Value.int IntKind.i64 n74, Value.string s75, Value.string s76, Value.int IntKind.i64 n77]) ∧
 Ca Try.prog (17 : Nat) #[Value.agg #[Value.int IntKind.i64 n74, Value.string s75, Value.string s76, Value.int IntKind.i64 n77]] w33 fun e78 w79 =>
 ∃ s80 : ByteArray,
 ∃ n81 : Int,
 (
 e78 = Ending.returned (Value.tuple #[Value.string s80, Value.int IntKind.i64 n81])) ∧
 Br (n81 != (0 : Int))
 (
 R (Ending.returned (Value.tuple #[Value.string { data := #[] }, Value.bool false])) w79)
 (
 ∃ n82 : Int,
 (
 w79.cell? { block := b32, off := (16 : Nat) } = some (Value.int IntKind.i64 n82)) ∧
 ∃ n83 : Int,
 (
 w79.cell? { block := b32, off := (17 : Nat) } = some (Value.int IntKind.i64 n83)) ∧
 ∃ n84 : Int,
 (
 w79.cell? { block := b32, off := (18 : Nat) } = some (Value.int IntKind.i64 n84)) ∧
 Ca Try.prog (102 : Nat) #[Value.int IntKind.i64 n82, Value.int IntKind.i64 n83, Value.int IntKind.i64 n84] w79 fun e85 w86 =>
 ∃ b87 : Bool,
 (
 e85 = Ending.returned (Value.bool b87)) ∧
 Br (!b87)
 (
 R (Ending.returned (Value.tuple #[Value.string { data := #[] }, Value.bool false])) w86)
 (
 ∃ n88 : Int,
 (
 w86.cell? { block := b32, off := (16 : Nat) } = some (Value.int IntKind.i64 n88)) ∧
 ∃ n89 : Int,
 (
 w86.cell? { block := b32, off := (17 : Nat) } = some (Value.int IntKind.i64 n89)) ∧
 ∃ n90 : Int,
 (
 w86.cell? { block := b32, off := (18 : Nat) } = some (Value.int IntKind.i64 n90)) ∧
 Ca Try.prog (56 : Nat) #[Value.int IntKind.i64 n88] w86 fun e91 w92 =>
 ∃ s93 : ByteArray,
 (
 e91 = Ending.returned (Value.string s93)) ∧
 (
 w92.cell? { block := b32, off := (18 : Nat) } = some (Value.int IntKind.i64 n90)) ∧
 (
 w92.cell? { block := b32, off := (17 : Nat) } = some (Value.int IntKind.i64 n89)) ∧
 Ca Try.prog (56 : Nat) #[Value.int IntKind.i64 n89] w92 fun e94 w95 =>
 ∃ s96 : ByteArray,
 (
 e94 = Ending.returned (Value.string s96)) ∧
 (
 w95.cell? { block := b32, off := (18 : Nat) } = some (Value.int IntKind.i64 n90)) ∧
 (
 (↑(s93.size + s96.size) : Int) ≤ IntKind.i64.max) ∧
 Ca Try.prog (56 : Nat) #[Value.int IntKind.i64 n90] w95 fun e97 w98 =>
 ∃ s99 : ByteArray,
 (
 e97 = Ending.returned (Value.string s99)) ∧
 (
 (↑((s93 ++ s96).size + s99.size) : Int) ≤ IntKind.i64.max) ∧
 (
 (↑((s93 ++ s96 ++ s99).size + s80.size) : Int) ≤ IntKind.i64.max) ∧
 R (Ending.returned (Value.tuple #[Value.string (s93 ++ s96 ++ s99 ++ s80), Value.bool true])) w98)))
 (
 Br (n34 == (8 : Int))
 (
 ∃ n100 : Int,
 ∃ p101 : Option Addr,
 ∃ k102 : Nat,
 ∃ k103 : Nat,
 ∃ n104 : Int,
 (
 Row w33 { block := b32, off := (23 : Nat) } (0 : Nat) [Value.int IntKind.i64 n100, Value.slice p101 k102 k103, Value.int IntKind.i64 n104]) ∧
 Ca Try.prog (73 : Nat) #[Value.agg #[Value.int IntKind.i64 n100, Value.slice p101 k102 k103, Value.int IntKind.i64 n104]] w33 fun e105 w106 =>
 ∃ s107 : ByteArray,
 ∃ n108 : Int,
 (
 e105 = Ending.returned (Value.tuple #[Value.string s107, Value.int IntKind.i64 n108])) ∧
 R (Ending.returned (Value.tuple #[Value.string s107, Value.bool (n108 == (0 : Int))])) w106)
 (
 ∃ n109 : Int,
 (
 w33.cell? { block := b32, off := (0 : Nat) } = some (Value.int IntKind.i64 n109)) ∧
 Br (decide (n109 ≥ (1 : Int)))
 (
 ∃ n110 : Int,
 (
 w33.cell? { block := b32, off := (0 : Nat) } = some (Value.int IntKind.i64 n110)) ∧
 R (Ending.returned (Value.tuple #[Value.string { data := #[] }, Value.bool (decide (n110 ≤ (12 : Int)))])) w33)
 (
 R (Ending.returned (Value.tuple #[Value.string { data := #[] }, Value.bool false])) w33)))))
theorem rbehind_ok (n1 : Int) (n2 : Int) (n3 : Int) (n4 : Int) (n5 : Int) (n6 : Int) (n7 : Int) (n8 : Int) (s9 : ByteArray) (s10 : ByteArray) (n11 : Int) (n12 : Int) (s13 : ByteArray) (n14 : Int) (n15 : Int) (n16 : Int) (n17 : Int) (n18 : Int) (n19 : Int) (n20 : Int) (s21 : ByteArray) (s22 : ByteArray) (n23 : Int) (n24 : Int) (p25 : Option Addr) (k26 : Nat) (k27 : Nat) (n28 : Int) (n29 : Int) (n30 : Int) (n31 : Int) (w : World) (R : Ending → World → Prop) (h : rbehind n1 n2 n3 n4 n5 n6 n7 n8 s9 s10 n11 n12 s13 n14 n15 n16 n17 n18 n19 n20 s21 s22 n23 n24 p25 k26 k27 n28 n29 n30 n31 w R) : Ca Try.prog 100 #[Value.agg #[Value.int IntKind.i64 n1, Value.int IntKind.i64 n2, Value.int IntKind.i64 n3, Value.int IntKind.i64 n4, Value.int IntKind.i64 n5, Value.int IntKind.i64 n6, Value.int IntKind.i64 n7, Value.int IntKind.i64 n8, Value.string s9, Value.string s10, Value.int IntKind.i64 n11, Value.int IntKind.i64 n12, Value.string s13, Value.int IntKind.i64 n14, Value.int IntKind.i64 n15, Value.int IntKind.i64 n16, Value.int IntKind.i64 n17, Value.int IntKind.i64 n18, Value.int IntKind.i64 n19, Value.int IntKind.i64 n20, Value.string s21, Value.string s22, Value.int IntKind.i64 n23, Value.int IntKind.i64 n24, Value.slice p25 k26 k27, Value.int IntKind.i64 n28, Value.int IntKind.i64 n29, Value.int IntKind.i64 n30, Value.int IntKind.i64 n31]] w R :=
 Ca.of_fvc (c := bodyOf Try.f100) (by kernel_rfl) Try.func100 (by kernel_rfl) [] (Eq.mp (by kernel_rfl) h)

def rfput (n1 : Int) (n2 : Int) (n3 : Int) (n4 : Int) (n5 : Int) (n6 : Int) (n7 : Int) (n8 : Int) (s9 : ByteArray) (s10 : ByteArray) (n11 : Int) (n12 : Int) (s13 : ByteArray) (n14 : Int) (n15 : Int) (n16 : Int) (n17 : Int) (n18 : Int) (n19 : Int) (n20 : Int) (s21 : ByteArray) (s22 : ByteArray) (n23 : Int) (n24 : Int) (p25 : Option Addr) (k26 : Nat) (k27 : Nat) (n28 : Int) (n29 : Int) (n30 : Int) (n31 : Int) (w : World) (R : Ending → World → Prop) : Prop :=
 LetA (Obj.cells #[Value.int IntKind.i64 n1, Value.int IntKind.i64 n2, Value.int IntKind.i64 n3, Value.int IntKind.i64 n4, Value.int IntKind.i64 n5, Value.int IntKind.i64 n6, Value.int IntKind.i64 n7, Value.int IntKind.i64 n8, Value.string s9, Value.string s10, Value.int IntKind.i64 n11, Value.int IntKind.i64 n12, Value.string s13, Value.int IntKind.i64 n14, Value.int IntKind.i64 n15, Value.int IntKind.i64 n16, Value.int IntKind.i64 n17, Value.int IntKind.i64 n18, Value.int IntKind.i64 n19, Value.int IntKind.i64 n20, Value.string s21, Value.string s22, Value.int IntKind.i64 n23, Value.int IntKind.i64 n24, Value.slice p25 k26 k27, Value.int IntKind.i64 n28, Value.int IntKind.i64 n29, Value.int IntKind.i64 n30, Value.int IntKind.i64 n31] (58 : Nat)) w fun b32 w33 =>
 ∃ n34 : Int,
 ∃ n35 : Int,
 ∃ n36 : Int,
 ∃ n37 : Int,
 ∃ n38 : Int,
 ∃ n39 : Int,
 ∃ n40 : Int,
 ∃ n41 : Int,
 ∃ s42 : ByteArray,
 ∃ s43 : ByteArray,
 ∃ n44 : Int,
 ∃ n45 : Int,
 ∃ s46 : ByteArray,
 ∃ n47 : Int,
 ∃ n48 : Int,
 ∃ n49 : Int,
 ∃ n50 : Int,
 ∃ n51 : Int,
 ∃ n52 : Int,
 ∃ n53 : Int,
 ∃ s54 : ByteArray,
 ∃ s55 : ByteArray,
 ∃ n56 : Int,
 ∃ n57 : Int,
 ∃ p58 : Option Addr,
 ∃ k59 : Nat,
 ∃ k60 : Nat,
 ∃ n61 : Int,
 ∃ n62 : Int,
 ∃ n63 : Int,
 ∃ n64 : Int,
 (
 Row w33 { block := b32, off := (0 : Nat) } (0 : Nat) [Value.int IntKind.i64 n34, Value.int IntKind.i64 n35, Value.int IntKind.i64 n36, Value.int IntKind.i64 n37, Value.int IntKind.i64 n38, Value.int IntKind.i64 n39, Value.int IntKind.i64 n40, Value.int IntKind.i64 n41, Value.string s42, Value.string s43, Value.int IntKind.i64 n44, Value.int IntKind.i64 n45, Value.string s46, Value.int IntKind.i64 n47, Value.int IntKind.i64 n48, Value.int IntKind.i64 n49, Value.int IntKind.i64 n50, Value.int IntKind.i64 n51, Value.int IntKind.i64 n52, Value.int IntKind.i64 n53, Value.string s54, Value.string s55, Value.int IntKind.i64 n56, Value.int IntKind.i64 n57, Value.slice p58 k59 k60, Value.int IntKind.i64 n61, Value.int IntKind.i64 n62, Value.int IntKind.i64 n63, Value.int IntKind.i64 n64]) ∧
 Ca Try.prog (100 : Nat) #[Value.agg #[Value.int IntKind.i64 n34, Value.int IntKind.i64 n35, Value.int IntKind.i64 n36, Value.int IntKind.i64 n37, Value.int IntKind.i64 n38, Value.int IntKind.i64 n39, Value.int IntKind.i64 n40, Value.int IntKind.i64 n41, Value.string s42, Value.string s43, Value.int IntKind.i64 n44, Value.int IntKind.i64 n45, Value.string s46, Value.int IntKind.i64 n47, Value.int IntKind.i64 n48, Value.int IntKind.i64 n49, Value.int IntKind.i64 n50, Value.int IntKind.i64 n51, Value.int IntKind.i64 n52, Value.int IntKind.i64 n53, Value.string s54, Value.string s55, Value.int IntKind.i64 n56, Value.int IntKind.i64 n57, Value.slice p58 k59 k60, Value.int IntKind.i64 n61, Value.int IntKind.i64 n62, Value.int IntKind.i64 n63, Value.int IntKind.i64 n64]] w33 fun e65 w66 =>
 ∃ s67 : ByteArray,
 ∃ b68 : Bool,
 (
 e65 = Ending.returned (Value.tuple #[Value.string s67, Value.bool b68])) ∧
 Br (!b68)
 (
 R (Ending.returned (Value.tuple #[Value.string { data := #[] }, Value.int IntKind.i64 (2 : Int)])) w66)
 (
 ∃ n69 : Int,
 (
 w66.cell? { block := b32, off := (0 : Nat) } = some (Value.int IntKind.i64 n69)) ∧
 Ca Try.prog (56 : Nat) #[Value.int IntKind.i64 n69] w66 fun e70 w71 =>
 ∃ s72 : ByteArray,
 (
 e70 = Ending.returned (Value.string s72)) ∧
 ∃ n73 : Int,
 (
 w71.cell? { block := b32, off := (0 : Nat) } = some (Value.int IntKind.i64 n73)) ∧
 Ca Try.prog (78 : Nat) #[Value.int IntKind.i64 n73] w71 fun e74 w75 =>
 ∃ s76 : ByteArray,
 (
 e74 = Ending.returned (Value.string s76)) ∧
 ∃ I77 : Nat → List Value → World → Prop,
 (
 ∃ k78 : Nat,
 I77 k78 [Value.string { data := #[] }, Value.int IntKind.i64 (0 : Int), Value.string s72, Value.int IntKind.i64 (0 : Int)] w75) ∧
 ∀ s79 : ByteArray,
 ∀ n80 : Int,
 ∀ s81 : ByteArray,
 ∀ n82 : Int,
 ∀ k83 : Nat,
 ∀ w84 : World,
 (
 I77 k83 [Value.string s79, Value.int IntKind.i64 n80, Value.string s81, Value.int IntKind.i64 n82] w84) →
 Br (decide (n82 < (↑s76.size : Int)))
 (
 ∃ n85 : Int,
 ∃ n86 : Int,
 ∃ n87 : Int,
 ∃ n88 : Int,
 ∃ n89 : Int,
 ∃ n90 : Int,
 ∃ n91 : Int,
 ∃ n92 : Int,
 ∃ s93 : ByteArray,
 ∃ s94 : ByteArray,
 ∃ n95 : Int,
 ∃ n96 : Int,
 ∃ s97 : ByteArray,
 ∃ n98 : Int,
 ∃ n99 : Int,
 ∃ n100 : Int,
 ∃ n101 : Int,
 ∃ n102 : Int,
 ∃ n103 : Int,
 ∃ n104 : Int,
 ∃ s105 : ByteArray,
 ∃ s106 : ByteArray,
 ∃ n107 : Int,
 ∃ n108 : Int,
 ∃ p109 : Option Addr,
 ∃ k110 : Nat,
 ∃ k111 : Nat,
 ∃ n112 : Int,
 ∃ n113 : Int,
 ∃ n114 : Int,
 ∃ n115 : Int,
 (
 Row w84 { block := b32, off := (0 : Nat) } (0 : Nat) [Value.int IntKind.i64 n85, Value.int IntKind.i64 n86, Value.int IntKind.i64 n87, Value.int IntKind.i64 n88, Value.int IntKind.i64 n89, Value.int IntKind.i64 n90, Value.int IntKind.i64 n91, Value.int IntKind.i64 n92, Value.string s93, Value.string s94, Value.int IntKind.i64 n95, Value.int IntKind.i64 n96, Value.string s97, Value.int IntKind.i64 n98, Value.int IntKind.i64 n99, Value.int IntKind.i64 n100, Value.int IntKind.i64 n101, Value.int IntKind.i64 n102, Value.int IntKind.i64 n103, Value.int IntKind.i64 n104, Value.string s105, Value.string s106, Value.int IntKind.i64 n107, Value.int IntKind.i64 n108, Value.slice p109 k110 k111, Value.int IntKind.i64 n112, Value.int IntKind.i64 n113, Value.int IntKind.i64 n114, Value.int IntKind.i64 n115]) ∧
 (
 (
 (0 : Int) ≤ n82) ∧
 n82 < (↑s76.size : Int)) ∧
 Ca Try.prog (101 : Nat) #[Value.agg #[Value.int IntKind.i64 n85, Value.int IntKind.i64 n86, Value.int IntKind.i64 n87, Value.int IntKind.i64 n88, Value.int IntKind.i64 n89, Value.int IntKind.i64 n90, Value.int IntKind.i64 n91, Value.int IntKind.i64 n92, Value.string s93, Value.string s94, Value.int IntKind.i64 n95, Value.int IntKind.i64 n96, Value.string s97, Value.int IntKind.i64 n98, Value.int IntKind.i64 n99, Value.int IntKind.i64 n100, Value.int IntKind.i64 n101, Value.int IntKind.i64 n102, Value.int IntKind.i64 n103, Value.int IntKind.i64 n104, Value.string s105, Value.string s106, Value.int IntKind.i64 n107, Value.int IntKind.i64 n108, Value.slice p109 k110 k111, Value.int IntKind.i64 n112, Value.int IntKind.i64 n113, Value.int IntKind.i64 n114, Value.int IntKind.i64 n115], Value.int IntKind.u8 (↑(s76.data.getD n82.toNat (0 : UInt8)).toNat : Int)] w84 fun e116 w117 =>
 ∃ n118 : Int,
 (
 e116 = Ending.returned (Value.int IntKind.i64 n118)) ∧
 Ca Try.prog (102 : Nat) #[Value.int IntKind.i64 n118, Value.int IntKind.i64 (0 : Int), Value.int IntKind.i64 (0 : Int)] w117 fun e119 w120 =>
 ∃ b121 : Bool,
 (
 e119 = Ending.returned (Value.bool b121)) ∧
 Br (!b121)
 (
 R (Ending.returned (Value.tuple #[Value.string { data := #[] }, Value.int IntKind.i64 (2 : Int)])) w120)
 (
 Ca Try.prog (56 : Nat) #[Value.int IntKind.i64 n118] w120 fun e122 w123 =>
 ∃ s124 : ByteArray,
 (
 e122 = Ending.returned (Value.string s124)) ∧
 (
 (↑(s81.size + s124.size) : Int) ≤ IntKind.i64.max) ∧
 LetI (IntKind.i64.wrap (n82 + (1 : Int))) fun n125 =>
 ∃ k126 : Nat,
 (
 k126 < k83) ∧
 I77 k126 [Value.string s79, Value.int IntKind.i64 n80, Value.string (s81 ++ s124), Value.int IntKind.i64 n125] w123))
 (
 (
 (↑(s81.size + s67.size) : Int) ≤ IntKind.i64.max) ∧
 Br (decide ((↑(s81 ++ s67).size : Int) > (512 : Int)))
 (
 R (Ending.returned (Value.tuple #[Value.string { data := #[] }, Value.int IntKind.i64 (3 : Int)])) w84)
 (
 (
 (↑(s81.size + s67.size) : Int) ≤ IntKind.i64.max) ∧
 R (Ending.returned (Value.tuple #[Value.string (s81 ++ s67), Value.int IntKind.i64 (0 : Int)])) w84)))
theorem rfput_ok (n1 : Int) (n2 : Int) (n3 : Int) (n4 : Int) (n5 : Int) (n6 : Int) (n7 : Int) (n8 : Int) (s9 : ByteArray) (s10 : ByteArray) (n11 : Int) (n12 : Int) (s13 : ByteArray) (n14 : Int) (n15 : Int) (n16 : Int) (n17 : Int) (n18 : Int) (n19 : Int) (n20 : Int) (s21 : ByteArray) (s22 : ByteArray) (n23 : Int) (n24 : Int) (p25 : Option Addr) (k26 : Nat) (k27 : Nat) (n28 : Int) (n29 : Int) (n30 : Int) (n31 : Int) (w : World) (R : Ending → World → Prop) (h : rfput n1 n2 n3 n4 n5 n6 n7 n8 s9 s10 n11 n12 s13 n14 n15 n16 n17 n18 n19 n20 s21 s22 n23 n24 p25 k26 k27 n28 n29 n30 n31 w R) : Ca Try.prog 80 #[Value.agg #[Value.int IntKind.i64 n1, Value.int IntKind.i64 n2, Value.int IntKind.i64 n3, Value.int IntKind.i64 n4, Value.int IntKind.i64 n5, Value.int IntKind.i64 n6, Value.int IntKind.i64 n7, Value.int IntKind.i64 n8, Value.string s9, Value.string s10, Value.int IntKind.i64 n11, Value.int IntKind.i64 n12, Value.string s13, Value.int IntKind.i64 n14, Value.int IntKind.i64 n15, Value.int IntKind.i64 n16, Value.int IntKind.i64 n17, Value.int IntKind.i64 n18, Value.int IntKind.i64 n19, Value.int IntKind.i64 n20, Value.string s21, Value.string s22, Value.int IntKind.i64 n23, Value.int IntKind.i64 n24, Value.slice p25 k26 k27, Value.int IntKind.i64 n28, Value.int IntKind.i64 n29, Value.int IntKind.i64 n30, Value.int IntKind.i64 n31]] w R :=
 Ca.of_fvc (c := bodyOf Try.f80) (by kernel_rfl) Try.func80 (by kernel_rfl) [] (Eq.mp (by kernel_rfl) h)

def rfget (s1 : ByteArray) (w : World) (R : Ending → World → Prop) : Prop :=
 LetA (Obj.cells #[Value.int IntKind.i64 (0 : Int), Value.int IntKind.i64 (0 : Int), Value.int IntKind.i64 (0 : Int), Value.int IntKind.i64 (0 : Int), Value.int IntKind.i64 (0 : Int), Value.int IntKind.i64 (0 : Int), Value.int IntKind.i64 (0 : Int), Value.int IntKind.i64 (0 : Int), Value.string { data := #[] }, Value.string { data := #[] }, Value.int IntKind.i64 (0 : Int), Value.int IntKind.i64 (0 : Int), Value.string { data := #[] }, Value.int IntKind.i64 (0 : Int), Value.int IntKind.i64 (0 : Int), Value.int IntKind.i64 (0 : Int), Value.int IntKind.i64 (0 : Int), Value.int IntKind.i64 (0 : Int), Value.int IntKind.i64 (0 : Int), Value.int IntKind.i64 (0 : Int), Value.string { data := #[] }, Value.string { data := #[] }, Value.int IntKind.i64 (0 : Int), Value.int IntKind.i64 (0 : Int), Value.slice none (0 : Nat) (0 : Nat), Value.int IntKind.i64 (0 : Int), Value.int IntKind.i64 (0 : Int), Value.int IntKind.i64 (0 : Int), Value.int IntKind.i64 (0 : Int)] (58 : Nat)) w fun b2 w3 =>
 Ca Try.prog (60 : Nat) #[Value.string s1] w3 fun e4 w5 =>
 ∃ n6 : Int,
 ∃ s7 : ByteArray,
 ∃ b8 : Bool,
 (
 e4 = Ending.returned (Value.tuple #[Value.int IntKind.i64 n6, Value.string s7, Value.bool b8])) ∧
 LetA (Obj.cells #[Value.int IntKind.i64 (0 : Int), Value.int IntKind.i64 (0 : Int), Value.int IntKind.i64 (0 : Int), Value.int IntKind.i64 (0 : Int), Value.int IntKind.i64 (0 : Int), Value.int IntKind.i64 (0 : Int), Value.int IntKind.i64 (0 : Int), Value.int IntKind.i64 (0 : Int), Value.string { data := #[] }, Value.string { data := #[] }, Value.int IntKind.i64 (0 : Int), Value.int IntKind.i64 (0 : Int), Value.string { data := #[] }, Value.int IntKind.i64 (0 : Int), Value.int IntKind.i64 (0 : Int), Value.int IntKind.i64 (0 : Int), Value.int IntKind.i64 (0 : Int), Value.int IntKind.i64 (0 : Int), Value.int IntKind.i64 (0 : Int), Value.int IntKind.i64 (0 : Int), Value.string { data := #[] }, Value.string { data := #[] }, Value.int IntKind.i64 (0 : Int), Value.int IntKind.i64 (0 : Int), Value.slice none (0 : Nat) (0 : Nat), Value.int IntKind.i64 (0 : Int), Value.int IntKind.i64 (0 : Int), Value.int IntKind.i64 (0 : Int), Value.int IntKind.i64 (0 : Int)] (58 : Nat)) w5 fun b9 w10 =>
 (
 WrRow w10 { block := b9, off := (0 : Nat) } (0 : Nat) [Value.int IntKind.i64 n6, Value.int IntKind.i64 (0 : Int), Value.int IntKind.i64 (0 : Int), Value.int IntKind.i64 (0 : Int), Value.int IntKind.i64 (0 : Int), Value.int IntKind.i64 (0 : Int), Value.int IntKind.i64 (0 : Int), Value.int IntKind.i64 (0 : Int), Value.string { data := #[] }, Value.string { data := #[] }, Value.int IntKind.i64 (0 : Int), Value.int IntKind.i64 (0 : Int), Value.string { data := #[] }, Value.int IntKind.i64 (0 : Int), Value.int IntKind.i64 (0 : Int), Value.int IntKind.i64 (0 : Int), Value.int IntKind.i64 (0 : Int), Value.int IntKind.i64 (0 : Int), Value.int IntKind.i64 (0 : Int), Value.int IntKind.i64 (0 : Int), Value.string { data := #[] }, Value.string { data := #[] }, Value.int IntKind.i64 (0 : Int), Value.int IntKind.i64 (0 : Int), Value.slice none (0 : Nat) (0 : Nat), Value.int IntKind.i64 (0 : Int), Value.int IntKind.i64 (0 : Int), Value.int IntKind.i64 (0 : Int), Value.int IntKind.i64 (0 : Int)]) ∧
 LetW (setRow w10 { block := b9, off := (0 : Nat) } (0 : Nat) [Value.int IntKind.i64 n6, Value.int IntKind.i64 (0 : Int), Value.int IntKind.i64 (0 : Int), Value.int IntKind.i64 (0 : Int), Value.int IntKind.i64 (0 : Int), Value.int IntKind.i64 (0 : Int), Value.int IntKind.i64 (0 : Int), Value.int IntKind.i64 (0 : Int), Value.string { data := #[] }, Value.string { data := #[] }, Value.int IntKind.i64 (0 : Int), Value.int IntKind.i64 (0 : Int), Value.string { data := #[] }, Value.int IntKind.i64 (0 : Int), Value.int IntKind.i64 (0 : Int), Value.int IntKind.i64 (0 : Int), Value.int IntKind.i64 (0 : Int), Value.int IntKind.i64 (0 : Int), Value.int IntKind.i64 (0 : Int), Value.int IntKind.i64 (0 : Int), Value.string { data := #[] }, Value.string { data := #[] }, Value.int IntKind.i64 (0 : Int), Value.int IntKind.i64 (0 : Int), Value.slice none (0 : Nat) (0 : Nat), Value.int IntKind.i64 (0 : Int), Value.int IntKind.i64 (0 : Int), Value.int IntKind.i64 (0 : Int), Value.int IntKind.i64 (0 : Int)]) fun w11 =>
 Ca Try.prog (78 : Nat) #[Value.int IntKind.i64 n6] w11 fun e12 w13 =>
 ∃ s14 : ByteArray,
 (
 e12 = Ending.returned (Value.string s14)) ∧
 ∃ I15 : Nat → List Value → World → Prop,
 (
 ∃ k16 : Nat,
 I15 k16 [Value.string s7, Value.int IntKind.i64 (0 : Int)] w13) ∧
 ∀ s17 : ByteArray,
 ∀ n18 : Int,
 ∀ k19 : Nat,
 ∀ w20 : World,
 (
 I15 k19 [Value.string s17, Value.int IntKind.i64 n18] w20) →
 Br (decide (n18 < (↑s14.size : Int)))
 (
 Ca Try.prog (60 : Nat) #[Value.string s17] w20 fun e21 w22 =>
 ∃ n23 : Int,
 ∃ s24 : ByteArray,
 ∃ b25 : Bool,
 (
 e21 = Ending.returned (Value.tuple #[Value.int IntKind.i64 n23, Value.string s24, Value.bool b25])) ∧
 ∃ n26 : Int,
 ∃ n27 : Int,
 ∃ n28 : Int,
 ∃ n29 : Int,
 ∃ n30 : Int,
 ∃ n31 : Int,
 ∃ n32 : Int,
 ∃ n33 : Int,
 ∃ s34 : ByteArray,
 ∃ s35 : ByteArray,
 ∃ n36 : Int,
 ∃ n37 : Int,
 ∃ s38 : ByteArray,
 ∃ n39 : Int,
 ∃ n40 : Int,
 ∃ n41 : Int,
 ∃ n42 : Int,
 ∃ n43 : Int,
 ∃ n44 : Int,
 ∃ n45 : Int,
 ∃ s46 : ByteArray,
 ∃ s47 : ByteArray,
 ∃ n48 : Int,
 ∃ n49 : Int,
 ∃ p50 : Option Addr,
 ∃ k51 : Nat,
 ∃ k52 : Nat,
 ∃ n53 : Int,
 ∃ n54 : Int,
 ∃ n55 : Int,
 ∃ n56 : Int,
 (
 Row w22 { block := b9, off := (0 : Nat) } (0 : Nat) [Value.int IntKind.i64 n26, Value.int IntKind.i64 n27, Value.int IntKind.i64 n28, Value.int IntKind.i64 n29, Value.int IntKind.i64 n30, Value.int IntKind.i64 n31, Value.int IntKind.i64 n32, Value.int IntKind.i64 n33, Value.string s34, Value.string s35, Value.int IntKind.i64 n36, Value.int IntKind.i64 n37, Value.string s38, Value.int IntKind.i64 n39, Value.int IntKind.i64 n40, Value.int IntKind.i64 n41, Value.int IntKind.i64 n42, Value.int IntKind.i64 n43, Value.int IntKind.i64 n44, Value.int IntKind.i64 n45, Value.string s46, Value.string s47, Value.int IntKind.i64 n48, Value.int IntKind.i64 n49, Value.slice p50 k51 k52, Value.int IntKind.i64 n53, Value.int IntKind.i64 n54, Value.int IntKind.i64 n55, Value.int IntKind.i64 n56]) ∧
 (
 (
 (0 : Int) ≤ n18) ∧
 n18 < (↑s14.size : Int)) ∧
 Ca Try.prog (79 : Nat) #[Value.agg #[Value.int IntKind.i64 n26, Value.int IntKind.i64 n27, Value.int IntKind.i64 n28, Value.int IntKind.i64 n29, Value.int IntKind.i64 n30, Value.int IntKind.i64 n31, Value.int IntKind.i64 n32, Value.int IntKind.i64 n33, Value.string s34, Value.string s35, Value.int IntKind.i64 n36, Value.int IntKind.i64 n37, Value.string s38, Value.int IntKind.i64 n39, Value.int IntKind.i64 n40, Value.int IntKind.i64 n41, Value.int IntKind.i64 n42, Value.int IntKind.i64 n43, Value.int IntKind.i64 n44, Value.int IntKind.i64 n45, Value.string s46, Value.string s47, Value.int IntKind.i64 n48, Value.int IntKind.i64 n49, Value.slice p50 k51 k52, Value.int IntKind.i64 n53, Value.int IntKind.i64 n54, Value.int IntKind.i64 n55, Value.int IntKind.i64 n56], Value.int IntKind.u8 (↑(s14.data.getD n18.toNat (0 : UInt8)).toNat : Int), Value.int IntKind.i64 n23] w22 fun e57 w58 =>
 ∃ n59 : Int,
 ∃ n60 : Int,
 ∃ n61 : Int,
 ∃ n62 : Int,
 ∃ n63 : Int,
 ∃ n64 : Int,
 ∃ n65 : Int,
 ∃ n66 : Int,
 ∃ s67 : ByteArray,
 ∃ s68 : ByteArray,
 ∃ n69 : Int,
 ∃ n70 : Int,
 ∃ s71 : ByteArray,
 ∃ n72 : Int,
 ∃ n73 : Int,
 ∃ n74 : Int,
 ∃ n75 : Int,
 ∃ n76 : Int,
 ∃ n77 : Int,
 ∃ n78 : Int,
 ∃ s79 : ByteArray,
 ∃ s80 : ByteArray,
 ∃ n81 : Int,
 ∃ n82 : Int,
 ∃ p83 : Option Addr,
 ∃ k84 : Nat,
 ∃ k85 : Nat,
 ∃ n86 : Int,
 ∃ n87 : Int,
 ∃ n88 : Int,
 ∃ n89 : Int,
 (
 e57 = Ending.returned (Value.agg #[Value.int IntKind.i64 n59, Value.int IntKind.i64 n60, Value.int IntKind.i64 n61, Value.int IntKind.i64 n62, Value.int IntKind.i64 n63, Value.int IntKind.i64 n64, Value.int IntKind.i64 n65, Value.int IntKind.i64 n66, Value.string s67, Value.string s68, Value.int IntKind.i64 n69, Value.int IntKind.i64 n70, Value.string s71, Value.int IntKind.i64 n72, Value.int IntKind.i64 n73, Value.int IntKind.i64 n74, Value.int IntKind.i64 n75, Value.int IntKind.i64 n76, Value.int IntKind.i64 n77, Value.int IntKind.i64 n78, Value.string s79, Value.string s80, Value.int IntKind.i64 n81, Value.int IntKind.i64 n82, Value.slice p83 k84 k85, Value.int IntKind.i64 n86, Value.int IntKind.i64 n87, Value.int IntKind.i64 n88, Value.int IntKind.i64 n89])) ∧
 (
 WrRow w58 { block := b9, off := (0 : Nat) } (0 : Nat) [Value.int IntKind.i64 n59, Value.int IntKind.i64 n60, Value.int IntKind.i64 n61, Value.int IntKind.i64 n62, Value.int IntKind.i64 n63, Value.int IntKind.i64 n64, Value.int IntKind.i64 n65, Value.int IntKind.i64 n66, Value.string s67, Value.string s68, Value.int IntKind.i64 n69, Value.int IntKind.i64 n70, Value.string s71, Value.int IntKind.i64 n72, Value.int IntKind.i64 n73, Value.int IntKind.i64 n74, Value.int IntKind.i64 n75, Value.int IntKind.i64 n76, Value.int IntKind.i64 n77, Value.int IntKind.i64 n78, Value.string s79, Value.string s80, Value.int IntKind.i64 n81, Value.int IntKind.i64 n82, Value.slice p83 k84 k85, Value.int IntKind.i64 n86, Value.int IntKind.i64 n87, Value.int IntKind.i64 n88, Value.int IntKind.i64 n89]) ∧
 LetW (setRow w58 { block := b9, off := (0 : Nat) } (0 : Nat) [Value.int IntKind.i64 n59, Value.int IntKind.i64 n60, Value.int IntKind.i64 n61, Value.int IntKind.i64 n62, Value.int IntKind.i64 n63, Value.int IntKind.i64 n64, Value.int IntKind.i64 n65, Value.int IntKind.i64 n66, Value.string s67, Value.string s68, Value.int IntKind.i64 n69, Value.int IntKind.i64 n70, Value.string s71, Value.int IntKind.i64 n72, Value.int IntKind.i64 n73, Value.int IntKind.i64 n74, Value.int IntKind.i64 n75, Value.int IntKind.i64 n76, Value.int IntKind.i64 n77, Value.int IntKind.i64 n78, Value.string s79, Value.string s80, Value.int IntKind.i64 n81, Value.int IntKind.i64 n82, Value.slice p83 k84 k85, Value.int IntKind.i64 n86, Value.int IntKind.i64 n87, Value.int IntKind.i64 n88, Value.int IntKind.i64 n89]) fun w90 =>
 LetI (IntKind.i64.wrap (n18 + (1 : Int))) fun n91 =>
 ∃ k92 : Nat,
 (
 k92 < k19) ∧
 I15 k92 [Value.string s24, Value.int IntKind.i64 n91] w90)
 (
 Ca Try.prog (60 : Nat) #[Value.string s17] w20 fun e93 w94 =>
 ∃ n95 : Int,
 ∃ s96 : ByteArray,
 ∃ b97 : Bool,
 (
 e93 = Ending.returned (Value.tuple #[Value.int IntKind.i64 n95, Value.string s96, Value.bool b97])) ∧
 ∃ I98 : List Value → World → Prop,
 (
 Br (n6 == (1 : Int))
 (
 Ca Try.prog (24 : Nat) #[Value.string s17] w94 fun e99 w100 =>
 ∃ n101 : Int,
 ∃ s102 : ByteArray,
 ∃ s103 : ByteArray,
 ∃ n104 : Int,
 ∃ n105 : Int,
 (
 e99 = Ending.returned (Value.tuple #[Value.agg #[Value.int IntKind.i64 n101, Value.string s102, Value.string s103, Value.int IntKind.i64 n104], Value.int IntKind.i64 n105])) ∧
 (
 WrRow w100 { block := b9, off := (7 : Nat) } (0 : Nat) [Value.int IntKind.i64 n101, Value.string s102, Value.string s103, Value.int IntKind.i64 n104]) ∧
 LetW (setRow w100 { block := b9, off := (7 : Nat) } (0 : Nat) [Value.int IntKind.i64 n101, Value.string s102, Value.string s103, Value.int IntKind.i64 n104]) fun w106 =>
 I98 [] w106)
 (
 Br (n6 == (2 : Int))
 (
 Ca Try.prog (61 : Nat) #[Value.string s96] w94 fun e107 w108 =>
 ∃ s109 : ByteArray,
 ∃ s110 : ByteArray,
 ∃ b111 : Bool,
 (
 e107 = Ending.returned (Value.tuple #[Value.string s109, Value.string s110, Value.bool b111])) ∧
 Ca Try.prog (60 : Nat) #[Value.string s110] w108 fun e112 w113 =>
 ∃ n114 : Int,
 ∃ s115 : ByteArray,
 ∃ b116 : Bool,
 (
 e112 = Ending.returned (Value.tuple #[Value.int IntKind.i64 n114, Value.string s115, Value.bool b116])) ∧
 Ca Try.prog (60 : Nat) #[Value.string s115] w113 fun e117 w118 =>
 ∃ n119 : Int,
 ∃ s120 : ByteArray,
 ∃ b121 : Bool,
 (
 e117 = Ending.returned (Value.tuple #[Value.int IntKind.i64 n119, Value.string s120, Value.bool b121])) ∧
 (
 WrRow w118 { block := b9, off := (11 : Nat) } (0 : Nat) [Value.int IntKind.i64 n95, Value.string s109, Value.int IntKind.i64 n114, Value.int IntKind.i64 n119]) ∧
 LetW (setRow w118 { block := b9, off := (11 : Nat) } (0 : Nat) [Value.int IntKind.i64 n95, Value.string s109, Value.int IntKind.i64 n114, Value.int IntKind.i64 n119]) fun w122 =>
 I98 [] w122)
 (
 Br (n6 == (4 : Int))
 (
 Ca Try.prog (60 : Nat) #[Value.string s96] w94 fun e123 w124 =>
 ∃ n125 : Int,
 ∃ s126 : ByteArray,
 ∃ b127 : Bool,
 (
 e123 = Ending.returned (Value.tuple #[Value.int IntKind.i64 n125, Value.string s126, Value.bool b127])) ∧
 Ca Try.prog (60 : Nat) #[Value.string s126] w124 fun e128 w129 =>
 ∃ n130 : Int,
 ∃ s131 : ByteArray,
 ∃ b132 : Bool,
 (
 e128 = Ending.returned (Value.tuple #[Value.int IntKind.i64 n130, Value.string s131, Value.bool b132])) ∧
 Ca Try.prog (24 : Nat) #[Value.string s131] w129 fun e133 w134 =>
 ∃ n135 : Int,
 ∃ s136 : ByteArray,
 ∃ s137 : ByteArray,
 ∃ n138 : Int,
 ∃ n139 : Int,
 (
 e133 = Ending.returned (Value.tuple #[Value.agg #[Value.int IntKind.i64 n135, Value.string s136, Value.string s137, Value.int IntKind.i64 n138], Value.int IntKind.i64 n139])) ∧
 LetA (Obj.cells #[Value.int IntKind.i64 (0 : Int), Value.string { data := #[] }, Value.string { data := #[] }, Value.int IntKind.i64 (0 : Int)] (23 : Nat)) w134 fun b140 w141 =>
 (
 WrRow w141 { block := b140, off := (0 : Nat) } (0 : Nat) [Value.int IntKind.i64 n135, Value.string s136, Value.string s137, Value.int IntKind.i64 n138]) ∧
 LetW (setRow w141 { block := b140, off := (0 : Nat) } (0 : Nat) [Value.int IntKind.i64 n135, Value.string s136, Value.string s137, Value.int IntKind.i64 n138]) fun w142 =>
 ∃ n143 : Int,
 ∃ s144 : ByteArray,
 ∃ s145 : ByteArray,
 ∃ n146 : Int,
 (
 Row w142 { block := b140, off := (0 : Nat) } (0 : Nat) [Value.int IntKind.i64 n143, Value.string s144, Value.string s145, Value.int IntKind.i64 n146]) ∧
 (
 WrRow w142 { block := b9, off := (16 : Nat) } (0 : Nat) [Value.int IntKind.i64 n95, Value.int IntKind.i64 n125, Value.int IntKind.i64 n130, Value.int IntKind.i64 n143, Value.string s144, Value.string s145, Value.int IntKind.i64 n146]) ∧
 LetW (setRow w142 { block := b9, off := (16 : Nat) } (0 : Nat) [Value.int IntKind.i64 n95, Value.int IntKind.i64 n125, Value.int IntKind.i64 n130, Value.int IntKind.i64 n143, Value.string s144, Value.string s145, Value.int IntKind.i64 n146]) fun w147 =>
 I98 [] w147)
 (
 Br (n6 == (8 : Int))
 (
 Ca Try.prog (42 : Nat) #[Value.string s17] w94 fun e148 w149 =>
 ∃ n150 : Int,
 ∃ p151 : Option Addr,
 ∃ k152 : Nat,
 ∃ k153 : Nat,
 ∃ n154 : Int,
 ∃ n155 : Int,
 (
 e148 = Ending.returned (Value.tuple #[Value.agg #[Value.int IntKind.i64 n150, Value.slice p151 k152 k153, Value.int IntKind.i64 n154], Value.int IntKind.i64 n155])) ∧
 (
 WrRow w149 { block := b9, off := (23 : Nat) } (0 : Nat) [Value.int IntKind.i64 n150, Value.slice p151 k152 k153, Value.int IntKind.i64 n154]) ∧
 LetW (setRow w149 { block := b9, off := (23 : Nat) } (0 : Nat) [Value.int IntKind.i64 n150, Value.slice p151 k152 k153, Value.int IntKind.i64 n154]) fun w156 =>
 I98 [] w156)
 (
 I98 [] w94))))) ∧
 ∀ w157 : World,
 (
 I98 [] w157) →
 ∃ n158 : Int,
 ∃ n159 : Int,
 ∃ n160 : Int,
 ∃ n161 : Int,
 ∃ n162 : Int,
 ∃ n163 : Int,
 ∃ n164 : Int,
 ∃ n165 : Int,
 ∃ s166 : ByteArray,
 ∃ s167 : ByteArray,
 ∃ n168 : Int,
 ∃ n169 : Int,
 ∃ s170 : ByteArray,
 ∃ n171 : Int,
 ∃ n172 : Int,
 ∃ n173 : Int,
 ∃ n174 : Int,
 ∃ n175 : Int,
 ∃ n176 : Int,
 ∃ n177 : Int,
 ∃ s178 : ByteArray,
 ∃ s179 : ByteArray,
 ∃ n180 : Int,
 ∃ n181 : Int,
 ∃ p182 : Option Addr,
 ∃ k183 : Nat,
 ∃ k184 : Nat,
 ∃ n185 : Int,
 ∃ n186 : Int,
 ∃ n187 : Int,
 ∃ n188 : Int,
 (
 Row w157 { block := b9, off := (0 : Nat) } (0 : Nat) [Value.int IntKind.i64 n158, Value.int IntKind.i64 n159, Value.int IntKind.i64 n160, Value.int IntKind.i64 n161, Value.int IntKind.i64 n162, Value.int IntKind.i64 n163, Value.int IntKind.i64 n164, Value.int IntKind.i64 n165, Value.string s166, Value.string s167, Value.int IntKind.i64 n168, Value.int IntKind.i64 n169, Value.string s170, Value.int IntKind.i64 n171, Value.int IntKind.i64 n172, Value.int IntKind.i64 n173, Value.int IntKind.i64 n174, Value.int IntKind.i64 n175, Value.int IntKind.i64 n176, Value.int IntKind.i64 n177, Value.string s178, Value.string s179, Value.int IntKind.i64 n180, Value.int IntKind.i64 n181, Value.slice p182 k183 k184, Value.int IntKind.i64 n185, Value.int IntKind.i64 n186, Value.int IntKind.i64 n187, Value.int IntKind.i64 n188]) ∧
 Ca Try.prog (80 : Nat) #[Value.agg #[Value.int IntKind.i64 n158, Value.int IntKind.i64 n159, Value.int IntKind.i64 n160, Value.int IntKind.i64 n161, Value.int IntKind.i64 n162, Value.int IntKind.i64 n163, Value.int IntKind.i64 n164, Value.int IntKind.i64 n165, Value.string s166, Value.string s167, Value.int IntKind.i64 n168, Value.int IntKind.i64 n169, Value.string s170, Value.int IntKind.i64 n171, Value.int IntKind.i64 n172, Value.int IntKind.i64 n173, Value.int IntKind.i64 n174, Value.int IntKind.i64 n175, Value.int IntKind.i64 n176, Value.int IntKind.i64 n177, Value.string s178, Value.string s179, Value.int IntKind.i64 n180, Value.int IntKind.i64 n181, Value.slice p182 k183 k184, Value.int IntKind.i64 n185, Value.int IntKind.i64 n186, Value.int IntKind.i64 n187, Value.int IntKind.i64 n188]] w157 fun e189 w190 =>
 ∃ s191 : ByteArray,
 ∃ n192 : Int,
 (
 e189 = Ending.returned (Value.tuple #[Value.string s191, Value.int IntKind.i64 n192])) ∧
 Br (decide ((↑s1.size : Int) > (512 : Int)))
 (
 (
 WrRow w190 { block := b2, off := (0 : Nat) } (0 : Nat) [Value.int IntKind.i64 (0 : Int), Value.int IntKind.i64 (0 : Int), Value.int IntKind.i64 (0 : Int), Value.int IntKind.i64 (0 : Int), Value.int IntKind.i64 (0 : Int), Value.int IntKind.i64 (0 : Int), Value.int IntKind.i64 (0 : Int), Value.int IntKind.i64 (0 : Int), Value.string { data := #[] }, Value.string { data := #[] }, Value.int IntKind.i64 (0 : Int), Value.int IntKind.i64 (0 : Int), Value.string { data := #[] }, Value.int IntKind.i64 (0 : Int), Value.int IntKind.i64 (0 : Int), Value.int IntKind.i64 (0 : Int), Value.int IntKind.i64 (0 : Int), Value.int IntKind.i64 (0 : Int), Value.int IntKind.i64 (0 : Int), Value.int IntKind.i64 (0 : Int), Value.string { data := #[] }, Value.string { data := #[] }, Value.int IntKind.i64 (0 : Int), Value.int IntKind.i64 (0 : Int), Value.slice none (0 : Nat) (0 : Nat), Value.int IntKind.i64 (0 : Int), Value.int IntKind.i64 (0 : Int), Value.int IntKind.i64 (0 : Int), Value.int IntKind.i64 (0 : Int)]) ∧
 LetW (setRow w190 { block := b2, off := (0 : Nat) } (0 : Nat) [Value.int IntKind.i64 (0 : Int), Value.int IntKind.i64 (0 : Int), Value.int IntKind.i64 (0 : Int), Value.int IntKind.i64 (0 : Int), Value.int IntKind.i64 (0 : Int), Value.int IntKind.i64 (0 : Int), Value.int IntKind.i64 (0 : Int), Value.int IntKind.i64 (0 : Int), Value.string { data := #[] }, Value.string { data := #[] }, Value.int IntKind.i64 (0 : Int), Value.int IntKind.i64 (0 : Int), Value.string { data := #[] }, Value.int IntKind.i64 (0 : Int), Value.int IntKind.i64 (0 : Int), Value.int IntKind.i64 (0 : Int), Value.int IntKind.i64 (0 : Int), Value.int IntKind.i64 (0 : Int), Value.int IntKind.i64 (0 : Int), Value.int IntKind.i64 (0 : Int), Value.string { data := #[] }, Value.string { data := #[] }, Value.int IntKind.i64 (0 : Int), Value.int IntKind.i64 (0 : Int), Value.slice none (0 : Nat) (0 : Nat), Value.int IntKind.i64 (0 : Int), Value.int IntKind.i64 (0 : Int), Value.int IntKind.i64 (0 : Int), Value.int IntKind.i64 (0 : Int)]) fun w193 =>
 ∃ n194 : Int,
 ∃ n195 : Int,
 ∃ n196 : Int,
 ∃ n197 : Int,
 ∃ n198 : Int,
 ∃ n199 : Int,
 ∃ n200 : Int,
 ∃ n201 : Int,
 ∃ s202 : ByteArray,
 ∃ s203 : ByteArray,
 ∃ n204 : Int,
 ∃ n205 : Int,
 ∃ s206 : ByteArray,
 ∃ n207 : Int,
 ∃ n208 : Int,
 ∃ n209 : Int,
 ∃ n210 : Int,
 ∃ n211 : Int,
 ∃ n212 : Int,
 ∃ n213 : Int,
 ∃ s214 : ByteArray,
 ∃ s215 : ByteArray,
 ∃ n216 : Int,
 ∃ n217 : Int,
 ∃ p218 : Option Addr,
 ∃ k219 : Nat,
 ∃ k220 : Nat,
 ∃ n221 : Int,
 ∃ n222 : Int,
 ∃ n223 : Int,
 ∃ n224 : Int,
 (
 Row w193 { block := b2, off := (0 : Nat) } (0 : Nat) [Value.int IntKind.i64 n194, Value.int IntKind.i64 n195, Value.int IntKind.i64 n196, Value.int IntKind.i64 n197, Value.int IntKind.i64 n198, Value.int IntKind.i64 n199, Value.int IntKind.i64 n200, Value.int IntKind.i64 n201, Value.string s202, Value.string s203, Value.int IntKind.i64 n204, Value.int IntKind.i64 n205, Value.string s206, Value.int IntKind.i64 n207, Value.int IntKind.i64 n208, Value.int IntKind.i64 n209, Value.int IntKind.i64 n210, Value.int IntKind.i64 n211, Value.int IntKind.i64 n212, Value.int IntKind.i64 n213, Value.string s214, Value.string s215, Value.int IntKind.i64 n216, Value.int IntKind.i64 n217, Value.slice p218 k219 k220, Value.int IntKind.i64 n221, Value.int IntKind.i64 n222, Value.int IntKind.i64 n223, Value.int IntKind.i64 n224]) ∧
 R (Ending.returned (Value.tuple #[Value.agg #[Value.int IntKind.i64 n194, Value.int IntKind.i64 n195, Value.int IntKind.i64 n196, Value.int IntKind.i64 n197, Value.int IntKind.i64 n198, Value.int IntKind.i64 n199, Value.int IntKind.i64 n200, Value.int IntKind.i64 n201, Value.string s202, Value.string s203, Value.int IntKind.i64 n204, Value.int IntKind.i64 n205, Value.string s206, Value.int IntKind.i64 n207, Value.int IntKind.i64 n208, Value.int IntKind.i64 n209, Value.int IntKind.i64 n210, Value.int IntKind.i64 n211, Value.int IntKind.i64 n212, Value.int IntKind.i64 n213, Value.string s214, Value.string s215, Value.int IntKind.i64 n216, Value.int IntKind.i64 n217, Value.slice p218 k219 k220, Value.int IntKind.i64 n221, Value.int IntKind.i64 n222, Value.int IntKind.i64 n223, Value.int IntKind.i64 n224], Value.int IntKind.i64 (10 : Int)])) w193)
 (
 Br (n192 != (0 : Int))
 (
 (
 WrRow w190 { block := b2, off := (0 : Nat) } (0 : Nat) [Value.int IntKind.i64 (0 : Int), Value.int IntKind.i64 (0 : Int), Value.int IntKind.i64 (0 : Int), Value.int IntKind.i64 (0 : Int), Value.int IntKind.i64 (0 : Int), Value.int IntKind.i64 (0 : Int), Value.int IntKind.i64 (0 : Int), Value.int IntKind.i64 (0 : Int), Value.string { data := #[] }, Value.string { data := #[] }, Value.int IntKind.i64 (0 : Int), Value.int IntKind.i64 (0 : Int), Value.string { data := #[] }, Value.int IntKind.i64 (0 : Int), Value.int IntKind.i64 (0 : Int), Value.int IntKind.i64 (0 : Int), Value.int IntKind.i64 (0 : Int), Value.int IntKind.i64 (0 : Int), Value.int IntKind.i64 (0 : Int), Value.int IntKind.i64 (0 : Int), Value.string { data := #[] }, Value.string { data := #[] }, Value.int IntKind.i64 (0 : Int), Value.int IntKind.i64 (0 : Int), Value.slice none (0 : Nat) (0 : Nat), Value.int IntKind.i64 (0 : Int), Value.int IntKind.i64 (0 : Int), Value.int IntKind.i64 (0 : Int), Value.int IntKind.i64 (0 : Int)]) ∧
 LetW (setRow w190 { block := b2, off := (0 : Nat) } (0 : Nat) [Value.int IntKind.i64 (0 : Int), Value.int IntKind.i64 (0 : Int), Value.int IntKind.i64 (0 : Int), Value.int IntKind.i64 (0 : Int), Value.int IntKind.i64 (0 : Int), Value.int IntKind.i64 (0 : Int), Value.int IntKind.i64 (0 : Int), Value.int IntKind.i64 (0 : Int), Value.string { data := #[] }, Value.string { data := #[] }, Value.int IntKind.i64 (0 : Int), Value.int IntKind.i64 (0 : Int), Value.string { data := #[] }, Value.int IntKind.i64 (0 : Int), Value.int IntKind.i64 (0 : Int), Value.int IntKind.i64 (0 : Int), Value.int IntKind.i64 (0 : Int), Value.int IntKind.i64 (0 : Int), Value.int IntKind.i64 (0 : Int), Value.int IntKind.i64 (0 : Int), Value.string { data := #[] }, Value.string { data := #[] }, Value.int IntKind.i64 (0 : Int), Value.int IntKind.i64 (0 : Int), Value.slice none (0 : Nat) (0 : Nat), Value.int IntKind.i64 (0 : Int), Value.int IntKind.i64 (0 : Int), Value.int IntKind.i64 (0 : Int), Value.int IntKind.i64 (0 : Int)]) fun w225 =>
 ∃ n226 : Int,
 ∃ n227 : Int,
 ∃ n228 : Int,
 ∃ n229 : Int,
 ∃ n230 : Int,
 ∃ n231 : Int,
 ∃ n232 : Int,
 ∃ n233 : Int,
 ∃ s234 : ByteArray,
 ∃ s235 : ByteArray,
 ∃ n236 : Int,
 ∃ n237 : Int,
 ∃ s238 : ByteArray,
 ∃ n239 : Int,
 ∃ n240 : Int,
 ∃ n241 : Int,
 ∃ n242 : Int,
 ∃ n243 : Int,
 ∃ n244 : Int,
 ∃ n245 : Int,
 ∃ s246 : ByteArray,
 ∃ s247 : ByteArray,
 ∃ n248 : Int,
 ∃ n249 : Int,
 ∃ p250 : Option Addr,
 ∃ k251 : Nat,
 ∃ k252 : Nat,
 ∃ n253 : Int,
 ∃ n254 : Int,
 ∃ n255 : Int,
 ∃ n256 : Int,
 (
 Row w225 { block := b2, off := (0 : Nat) } (0 : Nat) [Value.int IntKind.i64 n226, Value.int IntKind.i64 n227, Value.int IntKind.i64 n228, Value.int IntKind.i64 n229, Value.int IntKind.i64 n230, Value.int IntKind.i64 n231, Value.int IntKind.i64 n232, Value.int IntKind.i64 n233, Value.string s234, Value.string s235, Value.int IntKind.i64 n236, Value.int IntKind.i64 n237, Value.string s238, Value.int IntKind.i64 n239, Value.int IntKind.i64 n240, Value.int IntKind.i64 n241, Value.int IntKind.i64 n242, Value.int IntKind.i64 n243, Value.int IntKind.i64 n244, Value.int IntKind.i64 n245, Value.string s246, Value.string s247, Value.int IntKind.i64 n248, Value.int IntKind.i64 n249, Value.slice p250 k251 k252, Value.int IntKind.i64 n253, Value.int IntKind.i64 n254, Value.int IntKind.i64 n255, Value.int IntKind.i64 n256]) ∧
 R (Ending.returned (Value.tuple #[Value.agg #[Value.int IntKind.i64 n226, Value.int IntKind.i64 n227, Value.int IntKind.i64 n228, Value.int IntKind.i64 n229, Value.int IntKind.i64 n230, Value.int IntKind.i64 n231, Value.int IntKind.i64 n232, Value.int IntKind.i64 n233, Value.string s234, Value.string s235, Value.int IntKind.i64 n236, Value.int IntKind.i64 n237, Value.string s238, Value.int IntKind.i64 n239, Value.int IntKind.i64 n240, Value.int IntKind.i64 n241, Value.int IntKind.i64 n242, Value.int IntKind.i64 n243, Value.int IntKind.i64 n244, Value.int IntKind.i64 n245, Value.string s246, Value.string s247, Value.int IntKind.i64 n248, Value.int IntKind.i64 n249, Value.slice p250 k251 k252, Value.int IntKind.i64 n253, Value.int IntKind.i64 n254, Value.int IntKind.i64 n255, Value.int IntKind.i64 n256], Value.int IntKind.i64 (10 : Int)])) w225)
 (
 Br (!s191.toList == s1.toList)
 (
 (
 WrRow w190 { block := b2, off := (0 : Nat) } (0 : Nat) [Value.int IntKind.i64 (0 : Int), Value.int IntKind.i64 (0 : Int), Value.int IntKind.i64 (0 : Int), Value.int IntKind.i64 (0 : Int), Value.int IntKind.i64 (0 : Int), Value.int IntKind.i64 (0 : Int), Value.int IntKind.i64 (0 : Int), Value.int IntKind.i64 (0 : Int), Value.string { data := #[] }, Value.string { data := #[] }, Value.int IntKind.i64 (0 : Int), Value.int IntKind.i64 (0 : Int), Value.string { data := #[] }, Value.int IntKind.i64 (0 : Int), Value.int IntKind.i64 (0 : Int), Value.int IntKind.i64 (0 : Int), Value.int IntKind.i64 (0 : Int), Value.int IntKind.i64 (0 : Int), Value.int IntKind.i64 (0 : Int), Value.int IntKind.i64 (0 : Int), Value.string { data := #[] }, Value.string { data := #[] }, Value.int IntKind.i64 (0 : Int), Value.int IntKind.i64 (0 : Int), Value.slice none (0 : Nat) (0 : Nat), Value.int IntKind.i64 (0 : Int), Value.int IntKind.i64 (0 : Int), Value.int IntKind.i64 (0 : Int), Value.int IntKind.i64 (0 : Int)]) ∧
 LetW (setRow w190 { block := b2, off := (0 : Nat) } (0 : Nat) [Value.int IntKind.i64 (0 : Int), Value.int IntKind.i64 (0 : Int), Value.int IntKind.i64 (0 : Int), Value.int IntKind.i64 (0 : Int), Value.int IntKind.i64 (0 : Int), Value.int IntKind.i64 (0 : Int), Value.int IntKind.i64 (0 : Int), Value.int IntKind.i64 (0 : Int), Value.string { data := #[] }, Value.string { data := #[] }, Value.int IntKind.i64 (0 : Int), Value.int IntKind.i64 (0 : Int), Value.string { data := #[] }, Value.int IntKind.i64 (0 : Int), Value.int IntKind.i64 (0 : Int), Value.int IntKind.i64 (0 : Int), Value.int IntKind.i64 (0 : Int), Value.int IntKind.i64 (0 : Int), Value.int IntKind.i64 (0 : Int), Value.int IntKind.i64 (0 : Int), Value.string { data := #[] }, Value.string { data := #[] }, Value.int IntKind.i64 (0 : Int), Value.int IntKind.i64 (0 : Int), Value.slice none (0 : Nat) (0 : Nat), Value.int IntKind.i64 (0 : Int), Value.int IntKind.i64 (0 : Int), Value.int IntKind.i64 (0 : Int), Value.int IntKind.i64 (0 : Int)]) fun w257 =>
 ∃ n258 : Int,
 ∃ n259 : Int,
 ∃ n260 : Int,
 ∃ n261 : Int,
 ∃ n262 : Int,
 ∃ n263 : Int,
 ∃ n264 : Int,
 ∃ n265 : Int,
 ∃ s266 : ByteArray,
 ∃ s267 : ByteArray,
 ∃ n268 : Int,
 ∃ n269 : Int,
 ∃ s270 : ByteArray,
 ∃ n271 : Int,
 ∃ n272 : Int,
 ∃ n273 : Int,
 ∃ n274 : Int,
 ∃ n275 : Int,
 ∃ n276 : Int,
 ∃ n277 : Int,
 ∃ s278 : ByteArray,
 ∃ s279 : ByteArray,
 ∃ n280 : Int,
 ∃ n281 : Int,
 ∃ p282 : Option Addr,
 ∃ k283 : Nat,
 ∃ k284 : Nat,
 ∃ n285 : Int,
 ∃ n286 : Int,
 ∃ n287 : Int,
 ∃ n288 : Int,
 (
 Row w257 { block := b2, off := (0 : Nat) } (0 : Nat) [Value.int IntKind.i64 n258, Value.int IntKind.i64 n259, Value.int IntKind.i64 n260, Value.int IntKind.i64 n261, Value.int IntKind.i64 n262, Value.int IntKind.i64 n263, Value.int IntKind.i64 n264, Value.int IntKind.i64 n265, Value.string s266, Value.string s267, Value.int IntKind.i64 n268, Value.int IntKind.i64 n269, Value.string s270, Value.int IntKind.i64 n271, Value.int IntKind.i64 n272, Value.int IntKind.i64 n273, Value.int IntKind.i64 n274, Value.int IntKind.i64 n275, Value.int IntKind.i64 n276, Value.int IntKind.i64 n277, Value.string s278, Value.string s279, Value.int IntKind.i64 n280, Value.int IntKind.i64 n281, Value.slice p282 k283 k284, Value.int IntKind.i64 n285, Value.int IntKind.i64 n286, Value.int IntKind.i64 n287, Value.int IntKind.i64 n288]) ∧
 R (Ending.returned (Value.tuple #[Value.agg #[Value.int IntKind.i64 n258, Value.int IntKind.i64 n259, Value.int IntKind.i64 n260, Value.int IntKind.i64 n261, Value.int IntKind.i64 n262, Value.int IntKind.i64 n263, Value.int IntKind.i64 n264, Value.int IntKind.i64 n265, Value.string s266, Value.string s267, Value.int IntKind.i64 n268, Value.int IntKind.i64 n269, Value.string s270, Value.int IntKind.i64 n271, Value.int IntKind.i64 n272, Value.int IntKind.i64 n273, Value.int IntKind.i64 n274, Value.int IntKind.i64 n275, Value.int IntKind.i64 n276, Value.int IntKind.i64 n277, Value.string s278, Value.string s279, Value.int IntKind.i64 n280, Value.int IntKind.i64 n281, Value.slice p282 k283 k284, Value.int IntKind.i64 n285, Value.int IntKind.i64 n286, Value.int IntKind.i64 n287, Value.int IntKind.i64 n288], Value.int IntKind.i64 (10 : Int)])) w257)
 (
 ∃ n289 : Int,
 ∃ n290 : Int,
 ∃ n291 : Int,
 ∃ n292 : Int,
 ∃ n293 : Int,
 ∃ n294 : Int,
 ∃ n295 : Int,
 ∃ n296 : Int,
 ∃ s297 : ByteArray,
 ∃ s298 : ByteArray,
 ∃ n299 : Int,
 ∃ n300 : Int,
 ∃ s301 : ByteArray,
 ∃ n302 : Int,
 ∃ n303 : Int,
 ∃ n304 : Int,
 ∃ n305 : Int,
 ∃ n306 : Int,
 ∃ n307 : Int,
 ∃ n308 : Int,
 ∃ s309 : ByteArray,
 ∃ s310 : ByteArray,
 ∃ n311 : Int,
 ∃ n312 : Int,
 ∃ p313 : Option Addr,
 ∃ k314 : Nat,
 ∃ k315 : Nat,
 ∃ n316 : Int,
 ∃ n317 : Int,
 ∃ n318 : Int,
 ∃ n319 : Int,
 (
 Row w190 { block := b9, off := (0 : Nat) } (0 : Nat) [Value.int IntKind.i64 n289, Value.int IntKind.i64 n290, Value.int IntKind.i64 n291, Value.int IntKind.i64 n292, Value.int IntKind.i64 n293, Value.int IntKind.i64 n294, Value.int IntKind.i64 n295, Value.int IntKind.i64 n296, Value.string s297, Value.string s298, Value.int IntKind.i64 n299, Value.int IntKind.i64 n300, Value.string s301, Value.int IntKind.i64 n302, Value.int IntKind.i64 n303, Value.int IntKind.i64 n304, Value.int IntKind.i64 n305, Value.int IntKind.i64 n306, Value.int IntKind.i64 n307, Value.int IntKind.i64 n308, Value.string s309, Value.string s310, Value.int IntKind.i64 n311, Value.int IntKind.i64 n312, Value.slice p313 k314 k315, Value.int IntKind.i64 n316, Value.int IntKind.i64 n317, Value.int IntKind.i64 n318, Value.int IntKind.i64 n319]) ∧
 (
 WrRow w190 { block := b2, off := (0 : Nat) } (0 : Nat) [Value.int IntKind.i64 n289, Value.int IntKind.i64 n290, Value.int IntKind.i64 n291, Value.int IntKind.i64 n292, Value.int IntKind.i64 n293, Value.int IntKind.i64 n294, Value.int IntKind.i64 n295, Value.int IntKind.i64 n296, Value.string s297, Value.string s298, Value.int IntKind.i64 n299, Value.int IntKind.i64 n300, Value.string s301, Value.int IntKind.i64 n302, Value.int IntKind.i64 n303, Value.int IntKind.i64 n304, Value.int IntKind.i64 n305, Value.int IntKind.i64 n306, Value.int IntKind.i64 n307, Value.int IntKind.i64 n308, Value.string s309, Value.string s310, Value.int IntKind.i64 n311, Value.int IntKind.i64 n312, Value.slice p313 k314 k315, Value.int IntKind.i64 n316, Value.int IntKind.i64 n317, Value.int IntKind.i64 n318, Value.int IntKind.i64 n319]) ∧
 LetW (setRow w190 { block := b2, off := (0 : Nat) } (0 : Nat) [Value.int IntKind.i64 n289, Value.int IntKind.i64 n290, Value.int IntKind.i64 n291, Value.int IntKind.i64 n292, Value.int IntKind.i64 n293, Value.int IntKind.i64 n294, Value.int IntKind.i64 n295, Value.int IntKind.i64 n296, Value.string s297, Value.string s298, Value.int IntKind.i64 n299, Value.int IntKind.i64 n300, Value.string s301, Value.int IntKind.i64 n302, Value.int IntKind.i64 n303, Value.int IntKind.i64 n304, Value.int IntKind.i64 n305, Value.int IntKind.i64 n306, Value.int IntKind.i64 n307, Value.int IntKind.i64 n308, Value.string s309, Value.string s310, Value.int IntKind.i64 n311, Value.int IntKind.i64 n312, Value.slice p313 k314 k315, Value.int IntKind.i64 n316, Value.int IntKind.i64 n317, Value.int IntKind.i64 n318, Value.int IntKind.i64 n319]) fun w320 =>
 ∃ n321 : Int,
 ∃ n322 : Int,
 ∃ n323 : Int,
 ∃ n324 : Int,
 ∃ n325 : Int,
 ∃ n326 : Int,
 ∃ n327 : Int,
 ∃ n328 : Int,
 ∃ s329 : ByteArray,
 ∃ s330 : ByteArray,
 ∃ n331 : Int,
 ∃ n332 : Int,
 ∃ s333 : ByteArray,
 ∃ n334 : Int,
 ∃ n335 : Int,
 ∃ n336 : Int,
 ∃ n337 : Int,
 ∃ n338 : Int,
 ∃ n339 : Int,
 ∃ n340 : Int,
 ∃ s341 : ByteArray,
 ∃ s342 : ByteArray,
 ∃ n343 : Int,
 ∃ n344 : Int,
 ∃ p345 : Option Addr,
 ∃ k346 : Nat,
 ∃ k347 : Nat,
 ∃ n348 : Int,
 ∃ n349 : Int,
 ∃ n350 : Int,
 ∃ n351 : Int,
 (
 Row w320 { block := b2, off := (0 : Nat) } (0 : Nat) [Value.int IntKind.i64 n321, Value.int IntKind.i64 n322, Value.int IntKind.i64 n323, Value.int IntKind.i64 n324, Value.int IntKind.i64 n325, Value.int IntKind.i64 n326, Value.int IntKind.i64 n327, Value.int IntKind.i64 n328, Value.string s329, Value.string s330, Value.int IntKind.i64 n331, Value.int IntKind.i64 n332, Value.string s333, Value.int IntKind.i64 n334, Value.int IntKind.i64 n335, Value.int IntKind.i64 n336, Value.int IntKind.i64 n337, Value.int IntKind.i64 n338, Value.int IntKind.i64 n339, Value.int IntKind.i64 n340, Value.string s341, Value.string s342, Value.int IntKind.i64 n343, Value.int IntKind.i64 n344, Value.slice p345 k346 k347, Value.int IntKind.i64 n348, Value.int IntKind.i64 n349, Value.int IntKind.i64 n350, Value.int IntKind.i64 n351]) ∧
 R (Ending.returned (Value.tuple #[Value.agg #[Value.int IntKind.i64 n321, Value.int IntKind.i64 n322, Value.int IntKind.i64 n323, Value.int IntKind.i64 n324, Value.int IntKind.i64 n325, Value.int IntKind.i64 n326, Value.int IntKind.i64 n327, Value.int IntKind.i64 n328, Value.string s329, Value.string s330, Value.int IntKind.i64 n331, Value.int IntKind.i64 n332, Value.string s333, Value.int IntKind.i64 n334, Value.int IntKind.i64 n335, Value.int IntKind.i64 n336, Value.int IntKind.i64 n337, Value.int IntKind.i64 n338, Value.int IntKind.i64 n339, Value.int IntKind.i64 n340, Value.string s341, Value.string s342, Value.int IntKind.i64 n343, Value.int IntKind.i64 n344, Value.slice p345 k346 k347, Value.int IntKind.i64 n348, Value.int IntKind.i64 n349, Value.int IntKind.i64 n350, Value.int IntKind.i64 n351], Value.int IntKind.i64 (0 : Int)])) w320))))
theorem rfget_ok (s1 : ByteArray) (w : World) (R : Ending → World → Prop) (h : rfget s1 w R) : Ca Try.prog 46 #[Value.string s1] w R :=
 Ca.of_fvc (c := bodyOf Try.f46) (by kernel_rfl) Try.func46 (by kernel_rfl) [25] (Eq.mp (by kernel_rfl) h)

end Go.Proofs.Ytbdhdjbdooccoaa
