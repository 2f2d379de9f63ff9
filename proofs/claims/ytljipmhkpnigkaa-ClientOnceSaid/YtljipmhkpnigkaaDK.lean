/- The verification conditions of this seat's functions, printed by a program; the kernel holds each against the loaded code. -/
import Derived.Test.YtljipmhkpnigkaaProg
import Derived.KernelRfl
import Derived.Test.YtljipmhkpnigkaaV5
set_option maxRecDepth 100000
namespace Go.Proofs.Ytljipmhkpnigkaa
open Go Go.Vc Go.Proofs Go.Value Go.IntKind Go.Ending
def knear (n1 : Int) (w : World) (R : Ending → World → Prop) : Prop :=
 LetI (max n1 (0 : Int)) fun n2 =>
 LetI (min n2 (1099511627776 : Int)) fun n3 =>
 R (returned (int i64 n3)) w
theorem knear_ok (n1 : Int) (w : World) (R : Ending → World → Prop) (h : knear n1 w R) : Ca Try.prog 74 #[int i64 n1] w R :=
 Ca.of_fvc (c := bodyOf Try.f74) (by kernel_rfl) Try.func74 (by kernel_rfl) [] (Eq.mp (by kernel_rfl) h)

def knone (b1 : Nat) (w : World) (R : Ending → World → Prop) : Prop :=
 ∃ p2 : Option Addr,
 (w.cell? ⟨b1, 16, none⟩ = some (pointer p2)) ∧
 R (returned (bool p2.isNone)) w
theorem knone_ok (b1 : Nat) (w : World) (R : Ending → World → Prop) (h : knone b1 w R) : Ca Try.prog 70 #[pointer (some ⟨b1, 0, none⟩)] w R :=
 Ca.of_fvc (c := bodyOf Try.f70) (by kernel_rfl) Try.func70 (by kernel_rfl) [] (Eq.mp (by kernel_rfl) h)

def knone0 (w : World) (R : Ending → World → Prop) : Prop :=
 R (returned (bool true)) w
theorem knone0_ok (w : World) (R : Ending → World → Prop) (h : knone0  w R) : Ca Try.prog 70 #[pointer none] w R :=
 Ca.of_fvc (c := bodyOf Try.f70) (by kernel_rfl) Try.func70 (by kernel_rfl) [] (Eq.mp (by kernel_rfl) h)

def kquestion (w : World) (R : Ending → World → Prop) : Prop :=
 LetA (Obj.cells #[int i64 (16), int i64 (7), int i64 (0), int i64 (0), int i64 (0), int i64 (0), int i64 (0), int i64 (0), int i64 (0), string ⟨#[]⟩, string ⟨#[]⟩, int i64 (0), int i64 (0), string ⟨#[]⟩, int i64 (0), int i64 (0), int i64 (0), int i64 (0), int i64 (0), int i64 (0), int i64 (0), string ⟨#[]⟩, string ⟨#[]⟩, int i64 (0), int i64 (0), slice none (0 : Nat) (0 : Nat), int i64 (0), int i64 (0), int i64 (0), int i64 (0)] (70 : Nat)) w fun b1 w2 =>
 R (returned (slice (some ⟨b1, 0, none⟩) (1 : Nat) (1 : Nat))) w2
theorem kquestion_ok (w : World) (R : Ending → World → Prop) (h : kquestion  w R) : Ca Try.prog 93 #[] w R :=
 Ca.of_fvc (c := bodyOf Try.f93) (by kernel_rfl) Try.func93 (by kernel_rfl) [] (Eq.mp (by kernel_rfl) h)

def kask (b1 : Nat) (n2 : Int) (w : World) (R : Ending → World → Prop) : Prop :=
 (Wr w ⟨b1, 47, none⟩) ∧
 LetW (w.setCell ⟨b1, 47, none⟩ (int i64 (1))) fun w3 =>
 (Wr w3 ⟨b1, 48, none⟩) ∧
 LetW (w3.setCell ⟨b1, 48, none⟩ (int i64 n2)) fun w4 =>
 Ca Try.prog (93 : Nat) #[] w4 fun e5 w6 =>
 ∃ p7 : Option Addr,
 ∃ k8 : Nat,
 ∃ k9 : Nat,
 (e5 = returned (slice p7 k8 k9)) ∧
 R (returned (slice p7 k8 k9)) w6
theorem kask_ok (b1 : Nat) (n2 : Int) (w : World) (R : Ending → World → Prop) (h : kask b1 n2 w R) : Ca Try.prog 75 #[pointer (some ⟨b1, 0, none⟩), int i64 n2] w R :=
 Ca.of_fvc (c := bodyOf Try.f75) (by kernel_rfl) Try.func75 (by kernel_rfl) [] (Eq.mp (by kernel_rfl) h)

def ktry (b1 : Nat) (n2 : Int) (w : World) (R : Ending → World → Prop) : Prop :=
 ∃ n3 : Int,
 (w.cell? ⟨b1, 22, none⟩ = some (int i64 n3)) ∧
 LetI (i64.wrap (n3 + (1 : Int))) fun n4 =>
 (Wr w ⟨b1, 22, none⟩) ∧
 LetW (w.setCell ⟨b1, 22, none⟩ (int i64 n4)) fun w5 =>
 ∃ n6 : Int,
 (w5.cell? ⟨b1, 13, none⟩ = some (int i64 n6)) ∧
 (Wr w5 ⟨b1, 19, none⟩) ∧
 LetW (w5.setCell ⟨b1, 19, none⟩ (int i64 n6)) fun w7 =>
 (Wr w7 ⟨b1, 47, none⟩) ∧
 LetW (w7.setCell ⟨b1, 47, none⟩ (int i64 (2))) fun w8 =>
 (Wr w8 ⟨b1, 48, none⟩) ∧
 LetW (w8.setCell ⟨b1, 48, none⟩ (int i64 n2)) fun w9 =>
 ∃ n10 : Int,
 ∃ p11 : Option Addr,
 ∃ k12 : Nat,
 ∃ k13 : Nat,
 ∃ n14 : Int,
 (Row w9 ⟨b1, 13, none⟩ (0 : Nat) [int i64 n10, slice p11 k12 k13, int i64 n14]) ∧
 Ca Try.prog (22 : Nat) #[agg #[int i64 n10, slice p11 k12 k13, int i64 n14]] w9 fun e15 w16 =>
 ∃ n17 : Int,
 (e15 = returned (int i64 n17)) ∧
 ∃ n18 : Int,
 ∃ s19 : ByteArray,
 ∃ s20 : ByteArray,
 ∃ n21 : Int,
 (Row w16 ⟨b1, 25, none⟩ (0 : Nat) [int i64 n18, string s19, string s20, int i64 n21]) ∧
 Ca Try.prog (92 : Nat) #[agg #[int i64 n18, string s19, string s20, int i64 n21]] w16 fun e22 w23 =>
 ∃ b24 : Bool,
 (e22 = returned (bool b24)) ∧
 Br (b24)
 (∃ n25 : Int,
 ∃ p26 : Option Addr,
 ∃ k27 : Nat,
 ∃ k28 : Nat,
 ∃ n29 : Int,
 (Row w23 ⟨b1, 13, none⟩ (0 : Nat) [int i64 n25, slice p26 k27 k28, int i64 n29]) ∧
 Ca Try.prog (23 : Nat) #[agg #[int i64 n25, slice p26 k27 k28, int i64 n29]] w23 fun e30 w31 =>
 ∃ n32 : Int,
 (e30 = returned (int i64 n32)) ∧
 ∃ n33 : Int,
 ∃ n34 : Int,
 ∃ n35 : Int,
 ∃ n36 : Int,
 ∃ n37 : Int,
 ∃ n38 : Int,
 ∃ n39 : Int,
 ∃ n40 : Int,
 ∃ s41 : ByteArray,
 ∃ s42 : ByteArray,
 ∃ n43 : Int,
 ∃ n44 : Int,
 ∃ s45 : ByteArray,
 ∃ n46 : Int,
 ∃ n47 : Int,
 ∃ n48 : Int,
 ∃ n49 : Int,
 ∃ n50 : Int,
 ∃ n51 : Int,
 ∃ n52 : Int,
 ∃ s53 : ByteArray,
 ∃ s54 : ByteArray,
 ∃ n55 : Int,
 ∃ n56 : Int,
 ∃ p57 : Option Addr,
 ∃ k58 : Nat,
 ∃ k59 : Nat,
 ∃ n60 : Int,
 ∃ n61 : Int,
 ∃ n62 : Int,
 ∃ n63 : Int,
 (Row w31 ⟨b1, 18, none⟩ (0 : Nat) [int i64 n33, int i64 n34, int i64 n35, int i64 n36, int i64 n37, int i64 n38, int i64 n39, int i64 n40, string s41, string s42, int i64 n43, int i64 n44, string s45, int i64 n46, int i64 n47, int i64 n48, int i64 n49, int i64 n50, int i64 n51, int i64 n52, string s53, string s54, int i64 n55, int i64 n56, slice p57 k58 k59, int i64 n60, int i64 n61, int i64 n62, int i64 n63]) ∧
 LetA (Obj.cells #[int i64 n32, int i64 n33, int i64 n34, int i64 n35, int i64 n36, int i64 n37, int i64 n38, int i64 n39, int i64 n40, string s41, string s42, int i64 n43, int i64 n44, string s45, int i64 n46, int i64 n47, int i64 n48, int i64 n49, int i64 n50, int i64 n51, int i64 n52, string s53, string s54, int i64 n55, int i64 n56, slice p57 k58 k59, int i64 n60, int i64 n61, int i64 n62, int i64 n63] (70 : Nat)) w31 fun b64 w65 =>
 R (returned (slice (some ⟨b64, 0, none⟩) (1 : Nat) (1 : Nat))) w65)
 (∃ n66 : Int,
 ∃ n67 : Int,
 ∃ n68 : Int,
 ∃ n69 : Int,
 ∃ n70 : Int,
 ∃ n71 : Int,
 ∃ n72 : Int,
 ∃ n73 : Int,
 ∃ s74 : ByteArray,
 ∃ s75 : ByteArray,
 ∃ n76 : Int,
 ∃ n77 : Int,
 ∃ s78 : ByteArray,
 ∃ n79 : Int,
 ∃ n80 : Int,
 ∃ n81 : Int,
 ∃ n82 : Int,
 ∃ n83 : Int,
 ∃ n84 : Int,
 ∃ n85 : Int,
 ∃ s86 : ByteArray,
 ∃ s87 : ByteArray,
 ∃ n88 : Int,
 ∃ n89 : Int,
 ∃ p90 : Option Addr,
 ∃ k91 : Nat,
 ∃ k92 : Nat,
 ∃ n93 : Int,
 ∃ n94 : Int,
 ∃ n95 : Int,
 ∃ n96 : Int,
 (Row w23 ⟨b1, 18, none⟩ (0 : Nat) [int i64 n66, int i64 n67, int i64 n68, int i64 n69, int i64 n70, int i64 n71, int i64 n72, int i64 n73, string s74, string s75, int i64 n76, int i64 n77, string s78, int i64 n79, int i64 n80, int i64 n81, int i64 n82, int i64 n83, int i64 n84, int i64 n85, string s86, string s87, int i64 n88, int i64 n89, slice p90 k91 k92, int i64 n93, int i64 n94, int i64 n95, int i64 n96]) ∧
 LetA (Obj.cells #[int i64 n17, int i64 n66, int i64 n67, int i64 n68, int i64 n69, int i64 n70, int i64 n71, int i64 n72, int i64 n73, string s74, string s75, int i64 n76, int i64 n77, string s78, int i64 n79, int i64 n80, int i64 n81, int i64 n82, int i64 n83, int i64 n84, int i64 n85, string s86, string s87, int i64 n88, int i64 n89, slice p90 k91 k92, int i64 n93, int i64 n94, int i64 n95, int i64 n96] (70 : Nat)) w23 fun b97 w98 =>
 R (returned (slice (some ⟨b97, 0, none⟩) (1 : Nat) (1 : Nat))) w98)
theorem ktry_ok (b1 : Nat) (n2 : Int) (w : World) (R : Ending → World → Prop) (h : ktry b1 n2 w R) : Ca Try.prog 73 #[pointer (some ⟨b1, 0, none⟩), int i64 n2] w R :=
 Ca.of_fvc (c := bodyOf Try.f73) (by kernel_rfl) Try.func73 (by kernel_rfl) [] (Eq.mp (by kernel_rfl) h)

def kend (b1 : Nat) (n2 : Int) (n3 : Int) (n4 : Int) (s5 : ByteArray) (n6 : Int) (n7 : Int) (w : World) (R : Ending → World → Prop) : Prop :=
 LetA (Obj.cells #[int i64 n2, int i64 n3, int i64 n4, string s5, int i64 n6, int i64 n7] (80 : Nat)) w fun b8 w9 =>
 (Wr w9 ⟨b1, 47, none⟩) ∧
 LetW (w9.setCell ⟨b1, 47, none⟩ (int i64 (0))) fun w10 =>
 ∃ p11 : Option Addr,
 (w10.cell? ⟨b1, 17, none⟩ = some (pointer p11)) ∧
 ∃ n12 : Int,
 ∃ n13 : Int,
 ∃ n14 : Int,
 ∃ s15 : ByteArray,
 ∃ n16 : Int,
 ∃ n17 : Int,
 (Row w10 ⟨b8, 0, none⟩ (0 : Nat) [int i64 n12, int i64 n13, int i64 n14, string s15, int i64 n16, int i64 n17]) ∧
 Ca Try.prog (94 : Nat) #[pointer p11, agg #[int i64 n12, int i64 n13, int i64 n14, string s15, int i64 n16, int i64 n17]] w10 fun e18 w19 =>
 ∃ b20 : Bool,
 (e18 = returned (bool b20)) ∧
 R (returned (tuple #[])) w19
theorem kend_ok (b1 : Nat) (n2 : Int) (n3 : Int) (n4 : Int) (s5 : ByteArray) (n6 : Int) (n7 : Int) (w : World) (R : Ending → World → Prop) (h : kend b1 n2 n3 n4 s5 n6 n7 w R) : Ca Try.prog 77 #[pointer (some ⟨b1, 0, none⟩), agg #[int i64 n2, int i64 n3, int i64 n4, string s5, int i64 n6, int i64 n7]] w R :=
 Ca.of_fvc (c := bodyOf Try.f77) (by kernel_rfl) Try.func77 (by kernel_rfl) [] (Eq.mp (by kernel_rfl) h)

def kleave (b1 : Nat) (n2 : Int) (w : World) (R : Ending → World → Prop) : Prop :=
 ∃ b3 : Bool,
 (w.cell? ⟨b1, 49, none⟩ = some (bool b3)) ∧
 Br (b3)
 (Ca Try.prog (77 : Nat) #[pointer (some ⟨b1, 0, none⟩), agg #[int i64 (3), int i64 (0), int i64 (0), string ⟨#[]⟩, int i64 (0), int i64 (0)]] w fun e4 w5 =>
 (e4 = returned (tuple #[])) ∧
 R (returned (tuple #[])) w5)
 (Ca Try.prog (77 : Nat) #[pointer (some ⟨b1, 0, none⟩), agg #[int i64 (2), int i64 n2, int i64 (0), string ⟨#[]⟩, int i64 (0), int i64 (0)]] w fun e6 w7 =>
 (e6 = returned (tuple #[])) ∧
 R (returned (tuple #[])) w7)
theorem kleave_ok (b1 : Nat) (n2 : Int) (w : World) (R : Ending → World → Prop) (h : kleave b1 n2 w R) : Ca Try.prog 81 #[pointer (some ⟨b1, 0, none⟩), int i64 n2] w R :=
 Ca.of_fvc (c := bodyOf Try.f81) (by kernel_rfl) Try.func81 (by kernel_rfl) [] (Eq.mp (by kernel_rfl) h)

def kon (b1 : Nat) (n2 : Int) (n3 : Int) (w : World) (R : Ending → World → Prop) : Prop :=
 ∃ n4 : Int,
 (w.cell? ⟨b1, 22, none⟩ = some (int i64 n4)) ∧
 ∃ n5 : Int,
 (w.cell? ⟨b1, 10, none⟩ = some (int i64 n5)) ∧
 Br (decide (n4 > n5))
 (Ca Try.prog (81 : Nat) #[pointer (some ⟨b1, 0, none⟩), int i64 n2] w fun e6 w7 =>
 (e6 = returned (tuple #[])) ∧
 R (returned (tuple #[])) w7)
 (∃ n8 : Int,
 (w.cell? ⟨b1, 24, none⟩ = some (int i64 n8)) ∧
 Br (decide (n8 < n3))
 (Ca Try.prog (81 : Nat) #[pointer (some ⟨b1, 0, none⟩), int i64 n2] w fun e9 w10 =>
 (e9 = returned (tuple #[])) ∧
 R (returned (tuple #[])) w10)
 (∃ p11 : Option Addr,
 (w.cell? ⟨b1, 16, none⟩ = some (pointer p11)) ∧
 Ca Try.prog (95 : Nat) #[pointer p11, int i64 n3] w fun e12 w13 =>
 ∃ b14 : Bool,
 (e12 = returned (bool b14)) ∧
 Br (!b14)
 (Ca Try.prog (81 : Nat) #[pointer (some ⟨b1, 0, none⟩), int i64 n2] w13 fun e15 w16 =>
 (e15 = returned (tuple #[])) ∧
 R (returned (tuple #[])) w16)
 (∃ n17 : Int,
 (w13.cell? ⟨b1, 22, none⟩ = some (int i64 n17)) ∧
 Ca Try.prog (96 : Nat) #[int i64 n17, int i64 (64)] w13 fun e18 w19 =>
 ∃ n20 : Int,
 (e18 = returned (int i64 n20)) ∧
 LetI (i64.wrap (n3 + n20)) fun n21 =>
 (Wr w19 ⟨b1, 47, none⟩) ∧
 LetW (w19.setCell ⟨b1, 47, none⟩ (int i64 (3))) fun w22 =>
 (Wr w22 ⟨b1, 48, none⟩) ∧
 LetW (w22.setCell ⟨b1, 48, none⟩ (int i64 n21)) fun w23 =>
 R (returned (tuple #[])) w23)))
theorem kon_ok (b1 : Nat) (n2 : Int) (n3 : Int) (w : World) (R : Ending → World → Prop) (h : kon b1 n2 n3 w R) : Ca Try.prog 79 #[pointer (some ⟨b1, 0, none⟩), int i64 n2, int i64 n3] w R :=
 Ca.of_fvc (c := bodyOf Try.f79) (by kernel_rfl) Try.func79 (by kernel_rfl) [] (Eq.mp (by kernel_rfl) h)

def kcall (b1 : Nat) (n2 : Int) (s3 : ByteArray) (s4 : ByteArray) (n5 : Int) (n6 : Int) (n7 : Int) (n8 : Int) (w : World) (R : Ending → World → Prop) : Prop :=
 LetA (Obj.cells #[int i64 n2, string s3, string s4, int i64 n5] (47 : Nat)) w fun b9 w10 =>
 Ca Try.prog (70 : Nat) #[pointer (some ⟨b1, 0, none⟩)] w10 fun e11 w12 =>
 ∃ b13 : Bool,
 (e11 = returned (bool b13)) ∧
 Br (b13)
 (R (returned (tuple #[slice none (0 : Nat) (0 : Nat), int i64 (1)])) w12)
 (∃ n14 : Int,
 (w12.cell? ⟨b1, 47, none⟩ = some (int i64 n14)) ∧
 Br (n14 != (0 : Int))
 (R (returned (tuple #[slice none (0 : Nat) (0 : Nat), int i64 (63)])) w12)
 (∃ n15 : Int,
 ∃ s16 : ByteArray,
 ∃ s17 : ByteArray,
 ∃ n18 : Int,
 (Row w12 ⟨b9, 0, none⟩ (0 : Nat) [int i64 n15, string s16, string s17, int i64 n18]) ∧
 Ca Try.prog (71 : Nat) #[agg #[int i64 n15, string s16, string s17, int i64 n18]] w12 fun e19 w20 =>
 ∃ n21 : Int,
 (e19 = returned (int i64 n21)) ∧
 Br (n21 != (0 : Int))
 (R (returned (tuple #[slice none (0 : Nat) (0 : Nat), int i64 (2)])) w20)
 (Br (decide (n6 < (0 : Int)))
 (R (returned (tuple #[slice none (0 : Nat) (0 : Nat), int i64 (2)])) w20)
 (∃ p22 : Option Addr,
 ∃ k23 : Nat,
 ∃ k24 : Nat,
 (w20.cell? ⟨b1, 3, none⟩ = some (slice p22 k23 k24)) ∧
 Br (decide (n6 ≥ (↑k23 : Int)))
 (R (returned (tuple #[slice none (0 : Nat) (0 : Nat), int i64 (2)])) w20)
 (Br (decide (n7 < (0 : Int)))
 (R (returned (tuple #[slice none (0 : Nat) (0 : Nat), int i64 (2)])) w20)
 (Br (decide (n7 > (1099511627776 : Int)))
 (R (returned (tuple #[slice none (0 : Nat) (0 : Nat), int i64 (2)])) w20)
 (∃ n25 : Int,
 (w20.cell? ⟨b1, 12, none⟩ = some (int i64 n25)) ∧
 ∃ n26 : Int,
 (w20.cell? ⟨b1, 21, none⟩ = some (int i64 n26)) ∧
 LetI (i64.wrap (n26 + (1 : Int))) fun n27 =>
 ∃ n28 : Int,
 ∃ s29 : ByteArray,
 ∃ s30 : ByteArray,
 ∃ n31 : Int,
 (Row w20 ⟨b9, 0, none⟩ (0 : Nat) [int i64 n28, string s29, string s30, int i64 n31]) ∧
 (WrRow w20 ⟨b1, 18, none⟩ (0 : Nat) [int i64 (1), int i64 (0), int i64 n25, int i64 n27, int i64 (0), int i64 n6, int i64 n7, int i64 n28, string s29, string s30, int i64 n31, int i64 (0), string ⟨#[]⟩, int i64 (0), int i64 (0), int i64 (0), int i64 (0), int i64 (0), int i64 (0), int i64 (0), string ⟨#[]⟩, string ⟨#[]⟩, int i64 (0), int i64 (0), slice none (0 : Nat) (0 : Nat), int i64 (0), int i64 (0), int i64 (0), int i64 (0)]) ∧
 LetW (setRow w20 ⟨b1, 18, none⟩ (0 : Nat) [int i64 (1), int i64 (0), int i64 n25, int i64 n27, int i64 (0), int i64 n6, int i64 n7, int i64 n28, string s29, string s30, int i64 n31, int i64 (0), string ⟨#[]⟩, int i64 (0), int i64 (0), int i64 (0), int i64 (0), int i64 (0), int i64 (0), int i64 (0), string ⟨#[]⟩, string ⟨#[]⟩, int i64 (0), int i64 (0), slice none (0 : Nat) (0 : Nat), int i64 (0), int i64 (0), int i64 (0), int i64 (0)]) fun w32 =>
 Ca Try.prog (72 : Nat) #[] w32 fun e33 w34 =>
 ∃ p35 : Option Addr,
 (e33 = returned (pointer p35)) ∧
 (Wr w34 ⟨b1, 49, none⟩) ∧
 LetW (w34.setCell ⟨b1, 49, none⟩ (bool false)) fun w36 =>
 (Wr w36 ⟨b1, 17, none⟩) ∧
 LetW (w36.setCell ⟨b1, 17, none⟩ (pointer p35)) fun w37 =>
 ∃ n38 : Int,
 (w37.cell? ⟨b1, 13, none⟩ = some (int i64 n38)) ∧
 Br (decide (n38 > (0 : Int)))
 (Ca Try.prog (74 : Nat) #[int i64 n8] w37 fun e39 w40 =>
 ∃ n41 : Int,
 (e39 = returned (int i64 n41)) ∧
 Ca Try.prog (73 : Nat) #[pointer (some ⟨b1, 0, none⟩), int i64 n41] w40 fun e42 w43 =>
 ∃ p44 : Option Addr,
 ∃ k45 : Nat,
 ∃ k46 : Nat,
 (e42 = returned (slice p44 k45 k46)) ∧
 R (returned (tuple #[slice p44 k45 k46, int i64 (0)])) w43)
 (Ca Try.prog (74 : Nat) #[int i64 n8] w37 fun e47 w48 =>
 ∃ n49 : Int,
 (e47 = returned (int i64 n49)) ∧
 Ca Try.prog (75 : Nat) #[pointer (some ⟨b1, 0, none⟩), int i64 n49] w48 fun e50 w51 =>
 ∃ p52 : Option Addr,
 ∃ k53 : Nat,
 ∃ k54 : Nat,
 (e50 = returned (slice p52 k53 k54)) ∧
 R (returned (tuple #[slice p52 k53 k54, int i64 (0)])) w51))))))))
theorem kcall_ok (b1 : Nat) (n2 : Int) (s3 : ByteArray) (s4 : ByteArray) (n5 : Int) (n6 : Int) (n7 : Int) (n8 : Int) (w : World) (R : Ending → World → Prop) (h : kcall b1 n2 s3 s4 n5 n6 n7 n8 w R) : Ca Try.prog 38 #[pointer (some ⟨b1, 0, none⟩), agg #[int i64 n2, string s3, string s4, int i64 n5], int i64 n6, int i64 n7, int i64 n8] w R :=
 Ca.of_fvc (c := bodyOf Try.f38) (by kernel_rfl) Try.func38 (by kernel_rfl) [] (Eq.mp (by kernel_rfl) h)

def kcall0 (n1 : Int) (s2 : ByteArray) (s3 : ByteArray) (n4 : Int) (_n5 : Int) (_n6 : Int) (_n7 : Int) (w : World) (R : Ending → World → Prop) : Prop :=
 LetA (Obj.cells #[int i64 n1, string s2, string s3, int i64 n4] (47 : Nat)) w fun _b8 w9 =>
 Ca Try.prog (70 : Nat) #[pointer none] w9 fun e10 w11 =>
 ∃ b12 : Bool,
 (e10 = returned (bool b12)) ∧
 Br (b12)
 (R (returned (tuple #[slice none (0 : Nat) (0 : Nat), int i64 (1)])) w11)
 (False)
theorem kcall0_ok (n1 : Int) (s2 : ByteArray) (s3 : ByteArray) (n4 : Int) (n5 : Int) (n6 : Int) (n7 : Int) (w : World) (R : Ending → World → Prop) (h : kcall0 n1 s2 s3 n4 n5 n6 n7 w R) : Ca Try.prog 38 #[pointer none, agg #[int i64 n1, string s2, string s3, int i64 n4], int i64 n5, int i64 n6, int i64 n7] w R :=
 Ca.of_fvc (c := bodyOf Try.f38) (by kernel_rfl) Try.func38 (by kernel_rfl) [] (Eq.mp (by kernel_rfl) h)

def krefused (b1 : Nat) (n2 : Int) (n3 : Int) (n4 : Int) (n5 : Int) (n6 : Int) (n7 : Int) (n8 : Int) (n9 : Int) (s10 : ByteArray) (s11 : ByteArray) (n12 : Int) (n13 : Int) (s14 : ByteArray) (n15 : Int) (n16 : Int) (n17 : Int) (n18 : Int) (n19 : Int) (n20 : Int) (n21 : Int) (s22 : ByteArray) (s23 : ByteArray) (n24 : Int) (n25 : Int) (p26 : Option Addr) (k27 : Nat) (k28 : Nat) (n29 : Int) (n30 : Int) (n31 : Int) (n32 : Int) (n33 : Int) (w : World) (R : Ending → World → Prop) : Prop :=
 LetA (Obj.cells #[int i64 n2, int i64 n3, int i64 n4, int i64 n5, int i64 n6, int i64 n7, int i64 n8, int i64 n9, string s10, string s11, int i64 n12, int i64 n13, string s14, int i64 n15, int i64 n16, int i64 n17, int i64 n18, int i64 n19, int i64 n20, int i64 n21, string s22, string s23, int i64 n24, int i64 n25, slice p26 k27 k28, int i64 n29, int i64 n30, int i64 n31, int i64 n32] (53 : Nat)) w fun b34 w35 =>
 ∃ n36 : Int,
 (w35.cell? ⟨b34, 15, none⟩ = some (int i64 n36)) ∧
 Br (n36 == (2 : Int))
 (Br (n36 == (2 : Int))
 (∃ n37 : Int,
 (w35.cell? ⟨b34, 15, none⟩ = some (int i64 n37)) ∧
 Ca Try.prog (81 : Nat) #[pointer (some ⟨b1, 0, none⟩), int i64 n37] w35 fun e38 w39 =>
 (e38 = returned (tuple #[])) ∧
 Ca Try.prog (80 : Nat) #[pointer (some ⟨b1, 0, none⟩)] w39 fun e40 w41 =>
 ∃ p42 : Option Addr,
 ∃ k43 : Nat,
 ∃ k44 : Nat,
 (e40 = returned (slice p42 k43 k44)) ∧
 R (returned (slice p42 k43 k44)) w41)
 (Br (n36 == (6 : Int))
 ((
 Wr w35 ⟨b1, 49, none⟩) ∧
 LetW (w35.setCell ⟨b1, 49, none⟩ (bool true)) fun w45 =>
 ∃ n46 : Int,
 (w45.cell? ⟨b34, 15, none⟩ = some (int i64 n46)) ∧
 Ca Try.prog (79 : Nat) #[pointer (some ⟨b1, 0, none⟩), int i64 n46, int i64 n33] w45 fun e47 w48 =>
 (e47 = returned (tuple #[])) ∧
 Ca Try.prog (80 : Nat) #[pointer (some ⟨b1, 0, none⟩)] w48 fun e49 w50 =>
 ∃ p51 : Option Addr,
 ∃ k52 : Nat,
 ∃ k53 : Nat,
 (e49 = returned (slice p51 k52 k53)) ∧
 R (returned (slice p51 k52 k53)) w50)
 (∃ n54 : Int,
 (w35.cell? ⟨b34, 15, none⟩ = some (int i64 n54)) ∧
 Ca Try.prog (79 : Nat) #[pointer (some ⟨b1, 0, none⟩), int i64 n54, int i64 n33] w35 fun e55 w56 =>
 (e55 = returned (tuple #[])) ∧
 Ca Try.prog (80 : Nat) #[pointer (some ⟨b1, 0, none⟩)] w56 fun e57 w58 =>
 ∃ p59 : Option Addr,
 ∃ k60 : Nat,
 ∃ k61 : Nat,
 (e57 = returned (slice p59 k60 k61)) ∧
 R (returned (slice p59 k60 k61)) w58)))
 (Br (n36 == (10 : Int))
 (∃ n62 : Int,
 (w35.cell? ⟨b34, 15, none⟩ = some (int i64 n62)) ∧
 Ca Try.prog (81 : Nat) #[pointer (some ⟨b1, 0, none⟩), int i64 n62] w35 fun e63 w64 =>
 (e63 = returned (tuple #[])) ∧
 Ca Try.prog (80 : Nat) #[pointer (some ⟨b1, 0, none⟩)] w64 fun e65 w66 =>
 ∃ p67 : Option Addr,
 ∃ k68 : Nat,
 ∃ k69 : Nat,
 (e65 = returned (slice p67 k68 k69)) ∧
 R (returned (slice p67 k68 k69)) w66)
 (Br (n36 == (6 : Int))
 ((
 Wr w35 ⟨b1, 49, none⟩) ∧
 LetW (w35.setCell ⟨b1, 49, none⟩ (bool true)) fun w70 =>
 ∃ n71 : Int,
 (w70.cell? ⟨b34, 15, none⟩ = some (int i64 n71)) ∧
 Ca Try.prog (79 : Nat) #[pointer (some ⟨b1, 0, none⟩), int i64 n71, int i64 n33] w70 fun e72 w73 =>
 (e72 = returned (tuple #[])) ∧
 Ca Try.prog (80 : Nat) #[pointer (some ⟨b1, 0, none⟩)] w73 fun e74 w75 =>
 ∃ p76 : Option Addr,
 ∃ k77 : Nat,
 ∃ k78 : Nat,
 (e74 = returned (slice p76 k77 k78)) ∧
 R (returned (slice p76 k77 k78)) w75)
 (∃ n79 : Int,
 (w35.cell? ⟨b34, 15, none⟩ = some (int i64 n79)) ∧
 Ca Try.prog (79 : Nat) #[pointer (some ⟨b1, 0, none⟩), int i64 n79, int i64 n33] w35 fun e80 w81 =>
 (e80 = returned (tuple #[])) ∧
 Ca Try.prog (80 : Nat) #[pointer (some ⟨b1, 0, none⟩)] w81 fun e82 w83 =>
 ∃ p84 : Option Addr,
 ∃ k85 : Nat,
 ∃ k86 : Nat,
 (e82 = returned (slice p84 k85 k86)) ∧
 R (returned (slice p84 k85 k86)) w83)))
theorem krefused_ok (b1 : Nat) (n2 : Int) (n3 : Int) (n4 : Int) (n5 : Int) (n6 : Int) (n7 : Int) (n8 : Int) (n9 : Int) (s10 : ByteArray) (s11 : ByteArray) (n12 : Int) (n13 : Int) (s14 : ByteArray) (n15 : Int) (n16 : Int) (n17 : Int) (n18 : Int) (n19 : Int) (n20 : Int) (n21 : Int) (s22 : ByteArray) (s23 : ByteArray) (n24 : Int) (n25 : Int) (p26 : Option Addr) (k27 : Nat) (k28 : Nat) (n29 : Int) (n30 : Int) (n31 : Int) (n32 : Int) (n33 : Int) (w : World) (R : Ending → World → Prop) (h : krefused b1 n2 n3 n4 n5 n6 n7 n8 n9 s10 s11 n12 n13 s14 n15 n16 n17 n18 n19 n20 n21 s22 s23 n24 n25 p26 k27 k28 n29 n30 n31 n32 n33 w R) : Ca Try.prog 78 #[pointer (some ⟨b1, 0, none⟩), agg #[int i64 n2, int i64 n3, int i64 n4, int i64 n5, int i64 n6, int i64 n7, int i64 n8, int i64 n9, string s10, string s11, int i64 n12, int i64 n13, string s14, int i64 n15, int i64 n16, int i64 n17, int i64 n18, int i64 n19, int i64 n20, int i64 n21, string s22, string s23, int i64 n24, int i64 n25, slice p26 k27 k28, int i64 n29, int i64 n30, int i64 n31, int i64 n32], int i64 n33] w R :=
 Ca.of_fvc (c := bodyOf Try.f78) (by kernel_rfl) Try.func78 (by kernel_rfl) [] (Eq.mp (by kernel_rfl) h)

def kafter (b1 : Nat) (w : World) (R : Ending → World → Prop) : Prop :=
 ∃ n2 : Int,
 (w.cell? ⟨b1, 47, none⟩ = some (int i64 n2)) ∧
 Br (n2 != (0 : Int))
 (R (returned (slice none (0 : Nat) (0 : Nat))) w)
 (Ca Try.prog (93 : Nat) #[] w fun e3 w4 =>
 ∃ p5 : Option Addr,
 ∃ k6 : Nat,
 ∃ k7 : Nat,
 (e3 = returned (slice p5 k6 k7)) ∧
 R (returned (slice p5 k6 k7)) w4)
theorem kafter_ok (b1 : Nat) (w : World) (R : Ending → World → Prop) (h : kafter b1 w R) : Ca Try.prog 80 #[pointer (some ⟨b1, 0, none⟩)] w R :=
 Ca.of_fvc (c := bodyOf Try.f80) (by kernel_rfl) Try.func80 (by kernel_rfl) [] (Eq.mp (by kernel_rfl) h)

def ktake0 (n1 : Int) (n2 : Int) (n3 : Int) (n4 : Int) (n5 : Int) (n6 : Int) (n7 : Int) (n8 : Int) (s9 : ByteArray) (s10 : ByteArray) (n11 : Int) (n12 : Int) (s13 : ByteArray) (n14 : Int) (n15 : Int) (n16 : Int) (n17 : Int) (n18 : Int) (n19 : Int) (n20 : Int) (s21 : ByteArray) (s22 : ByteArray) (n23 : Int) (n24 : Int) (p25 : Option Addr) (k26 : Nat) (k27 : Nat) (n28 : Int) (n29 : Int) (n30 : Int) (n31 : Int) (n32 : Int) (w : World) (R : Ending → World → Prop) : Prop :=
 LetA (Obj.cells #[int i64 n1, int i64 n2, int i64 n3, int i64 n4, int i64 n5, int i64 n6, int i64 n7, int i64 n8, string s9, string s10, int i64 n11, int i64 n12, string s13, int i64 n14, int i64 n15, int i64 n16, int i64 n17, int i64 n18, int i64 n19, int i64 n20, string s21, string s22, int i64 n23, int i64 n24, slice p25 k26 k27, int i64 n28, int i64 n29, int i64 n30, int i64 n31] (53 : Nat)) w fun b33 w34 =>
 Ca Try.prog (70 : Nat) #[pointer none] w34 fun e35 w36 =>
 ∃ b37 : Bool,
 (e35 = returned (bool b37)) ∧
 Br (b37)
 (R (returned (slice none (0 : Nat) (0 : Nat))) w36)
 (Ca Try.prog (74 : Nat) #[int i64 n32] w36 fun e38 w39 =>
 ∃ n40 : Int,
 (e38 = returned (int i64 n40)) ∧
 ∃ n41 : Int,
 (w39.cell? ⟨b33, 2, none⟩ = some (int i64 n41)) ∧
 False)
theorem ktake0_ok (n1 : Int) (n2 : Int) (n3 : Int) (n4 : Int) (n5 : Int) (n6 : Int) (n7 : Int) (n8 : Int) (s9 : ByteArray) (s10 : ByteArray) (n11 : Int) (n12 : Int) (s13 : ByteArray) (n14 : Int) (n15 : Int) (n16 : Int) (n17 : Int) (n18 : Int) (n19 : Int) (n20 : Int) (s21 : ByteArray) (s22 : ByteArray) (n23 : Int) (n24 : Int) (p25 : Option Addr) (k26 : Nat) (k27 : Nat) (n28 : Int) (n29 : Int) (n30 : Int) (n31 : Int) (n32 : Int) (w : World) (R : Ending → World → Prop) (h : ktake0 n1 n2 n3 n4 n5 n6 n7 n8 s9 s10 n11 n12 s13 n14 n15 n16 n17 n18 n19 n20 s21 s22 n23 n24 p25 k26 k27 n28 n29 n30 n31 n32 w R) : Ca Try.prog 40 #[pointer none, agg #[int i64 n1, int i64 n2, int i64 n3, int i64 n4, int i64 n5, int i64 n6, int i64 n7, int i64 n8, string s9, string s10, int i64 n11, int i64 n12, string s13, int i64 n14, int i64 n15, int i64 n16, int i64 n17, int i64 n18, int i64 n19, int i64 n20, string s21, string s22, int i64 n23, int i64 n24, slice p25 k26 k27, int i64 n28, int i64 n29, int i64 n30, int i64 n31], int i64 n32] w R :=
 Ca.of_fvc (c := bodyOf Try.f40) (by kernel_rfl) Try.func40 (by kernel_rfl) [] (Eq.mp (by kernel_rfl) h)

def ktick (b1 : Nat) (n2 : Int) (w : World) (R : Ending → World → Prop) : Prop :=
 Ca Try.prog (70 : Nat) #[pointer (some ⟨b1, 0, none⟩)] w fun e3 w4 =>
 ∃ b5 : Bool,
 (e3 = returned (bool b5)) ∧
 Br (b5)
 (R (returned (slice none (0 : Nat) (0 : Nat))) w4)
 (Ca Try.prog (74 : Nat) #[int i64 n2] w4 fun e6 w7 =>
 ∃ n8 : Int,
 (e6 = returned (int i64 n8)) ∧
 ∃ n9 : Int,
 (w7.cell? ⟨b1, 48, none⟩ = some (int i64 n9)) ∧
 LetI (i64.wrap (n8 - n9)) fun n10 =>
 ∃ n11 : Int,
 (w7.cell? ⟨b1, 9, none⟩ = some (int i64 n11)) ∧
 ∃ n12 : Int,
 (w7.cell? ⟨b1, 47, none⟩ = some (int i64 n12)) ∧
 Br (n12 == (2 : Int))
 (Br (decide (n10 ≥ n11))
 ((
 Wr w7 ⟨b1, 49, none⟩) ∧
 LetW (w7.setCell ⟨b1, 49, none⟩ (bool true)) fun w13 =>
 Ca Try.prog (79 : Nat) #[pointer (some ⟨b1, 0, none⟩), int i64 (0), int i64 n8] w13 fun e14 w15 =>
 (e14 = returned (tuple #[])) ∧
 Ca Try.prog (80 : Nat) #[pointer (some ⟨b1, 0, none⟩)] w15 fun e16 w17 =>
 ∃ p18 : Option Addr,
 ∃ k19 : Nat,
 ∃ k20 : Nat,
 (e16 = returned (slice p18 k19 k20)) ∧
 R (returned (slice p18 k19 k20)) w17)
 (∃ n21 : Int,
 (w7.cell? ⟨b1, 47, none⟩ = some (int i64 n21)) ∧
 Br (n21 == (1 : Int))
 (Br (decide (n10 ≥ n11))
 (∃ n22 : Int,
 (w7.cell? ⟨b1, 24, none⟩ = some (int i64 n22)) ∧
 Br (decide (n22 < n8))
 (Ca Try.prog (81 : Nat) #[pointer (some ⟨b1, 0, none⟩), int i64 (2)] w7 fun e23 w24 =>
 (e23 = returned (tuple #[])) ∧
 Ca Try.prog (80 : Nat) #[pointer (some ⟨b1, 0, none⟩)] w24 fun e25 w26 =>
 ∃ p27 : Option Addr,
 ∃ k28 : Nat,
 ∃ k29 : Nat,
 (e25 = returned (slice p27 k28 k29)) ∧
 R (returned (slice p27 k28 k29)) w26)
 (∃ n30 : Int,
 (w7.cell? ⟨b1, 47, none⟩ = some (int i64 n30)) ∧
 Br (n30 == (1 : Int))
 (Br (decide (n10 ≥ n11))
 (Br (decide (n10 ≥ n11))
 (Ca Try.prog (75 : Nat) #[pointer (some ⟨b1, 0, none⟩), int i64 n8] w7 fun e31 w32 =>
 ∃ p33 : Option Addr,
 ∃ k34 : Nat,
 ∃ k35 : Nat,
 (e31 = returned (slice p33 k34 k35)) ∧
 R (returned (slice p33 k34 k35)) w32)
 (R (returned (slice none (0 : Nat) (0 : Nat))) w7))
 (∃ n36 : Int,
 (w7.cell? ⟨b1, 47, none⟩ = some (int i64 n36)) ∧
 Br (n36 == (3 : Int))
 (∃ n37 : Int,
 (w7.cell? ⟨b1, 48, none⟩ = some (int i64 n37)) ∧
 Br (decide (n8 ≥ n37))
 (Ca Try.prog (75 : Nat) #[pointer (some ⟨b1, 0, none⟩), int i64 n8] w7 fun e38 w39 =>
 ∃ p40 : Option Addr,
 ∃ k41 : Nat,
 ∃ k42 : Nat,
 (e38 = returned (slice p40 k41 k42)) ∧
 R (returned (slice p40 k41 k42)) w39)
 (R (returned (slice none (0 : Nat) (0 : Nat))) w7))
 (R (returned (slice none (0 : Nat) (0 : Nat))) w7)))
 (∃ n43 : Int,
 (w7.cell? ⟨b1, 47, none⟩ = some (int i64 n43)) ∧
 Br (n43 == (3 : Int))
 (∃ n44 : Int,
 (w7.cell? ⟨b1, 48, none⟩ = some (int i64 n44)) ∧
 Br (decide (n8 ≥ n44))
 (Ca Try.prog (75 : Nat) #[pointer (some ⟨b1, 0, none⟩), int i64 n8] w7 fun e45 w46 =>
 ∃ p47 : Option Addr,
 ∃ k48 : Nat,
 ∃ k49 : Nat,
 (e45 = returned (slice p47 k48 k49)) ∧
 R (returned (slice p47 k48 k49)) w46)
 (R (returned (slice none (0 : Nat) (0 : Nat))) w7))
 (R (returned (slice none (0 : Nat) (0 : Nat))) w7))))
 (∃ n50 : Int,
 (w7.cell? ⟨b1, 47, none⟩ = some (int i64 n50)) ∧
 Br (n50 == (1 : Int))
 (Br (decide (n10 ≥ n11))
 (Br (decide (n10 ≥ n11))
 (Ca Try.prog (75 : Nat) #[pointer (some ⟨b1, 0, none⟩), int i64 n8] w7 fun e51 w52 =>
 ∃ p53 : Option Addr,
 ∃ k54 : Nat,
 ∃ k55 : Nat,
 (e51 = returned (slice p53 k54 k55)) ∧
 R (returned (slice p53 k54 k55)) w52)
 (R (returned (slice none (0 : Nat) (0 : Nat))) w7))
 (∃ n56 : Int,
 (w7.cell? ⟨b1, 47, none⟩ = some (int i64 n56)) ∧
 Br (n56 == (3 : Int))
 (∃ n57 : Int,
 (w7.cell? ⟨b1, 48, none⟩ = some (int i64 n57)) ∧
 Br (decide (n8 ≥ n57))
 (Ca Try.prog (75 : Nat) #[pointer (some ⟨b1, 0, none⟩), int i64 n8] w7 fun e58 w59 =>
 ∃ p60 : Option Addr,
 ∃ k61 : Nat,
 ∃ k62 : Nat,
 (e58 = returned (slice p60 k61 k62)) ∧
 R (returned (slice p60 k61 k62)) w59)
 (R (returned (slice none (0 : Nat) (0 : Nat))) w7))
 (R (returned (slice none (0 : Nat) (0 : Nat))) w7)))
 (∃ n63 : Int,
 (w7.cell? ⟨b1, 47, none⟩ = some (int i64 n63)) ∧
 Br (n63 == (3 : Int))
 (∃ n64 : Int,
 (w7.cell? ⟨b1, 48, none⟩ = some (int i64 n64)) ∧
 Br (decide (n8 ≥ n64))
 (Ca Try.prog (75 : Nat) #[pointer (some ⟨b1, 0, none⟩), int i64 n8] w7 fun e65 w66 =>
 ∃ p67 : Option Addr,
 ∃ k68 : Nat,
 ∃ k69 : Nat,
 (e65 = returned (slice p67 k68 k69)) ∧
 R (returned (slice p67 k68 k69)) w66)
 (R (returned (slice none (0 : Nat) (0 : Nat))) w7))
 (R (returned (slice none (0 : Nat) (0 : Nat))) w7))))
 (∃ n70 : Int,
 (w7.cell? ⟨b1, 47, none⟩ = some (int i64 n70)) ∧
 Br (n70 == (1 : Int))
 (Br (decide (n10 ≥ n11))
 (Br (decide (n10 ≥ n11))
 (Ca Try.prog (75 : Nat) #[pointer (some ⟨b1, 0, none⟩), int i64 n8] w7 fun e71 w72 =>
 ∃ p73 : Option Addr,
 ∃ k74 : Nat,
 ∃ k75 : Nat,
 (e71 = returned (slice p73 k74 k75)) ∧
 R (returned (slice p73 k74 k75)) w72)
 (R (returned (slice none (0 : Nat) (0 : Nat))) w7))
 (∃ n76 : Int,
 (w7.cell? ⟨b1, 47, none⟩ = some (int i64 n76)) ∧
 Br (n76 == (3 : Int))
 (∃ n77 : Int,
 (w7.cell? ⟨b1, 48, none⟩ = some (int i64 n77)) ∧
 Br (decide (n8 ≥ n77))
 (Ca Try.prog (75 : Nat) #[pointer (some ⟨b1, 0, none⟩), int i64 n8] w7 fun e78 w79 =>
 ∃ p80 : Option Addr,
 ∃ k81 : Nat,
 ∃ k82 : Nat,
 (e78 = returned (slice p80 k81 k82)) ∧
 R (returned (slice p80 k81 k82)) w79)
 (R (returned (slice none (0 : Nat) (0 : Nat))) w7))
 (R (returned (slice none (0 : Nat) (0 : Nat))) w7)))
 (∃ n83 : Int,
 (w7.cell? ⟨b1, 47, none⟩ = some (int i64 n83)) ∧
 Br (n83 == (3 : Int))
 (∃ n84 : Int,
 (w7.cell? ⟨b1, 48, none⟩ = some (int i64 n84)) ∧
 Br (decide (n8 ≥ n84))
 (Ca Try.prog (75 : Nat) #[pointer (some ⟨b1, 0, none⟩), int i64 n8] w7 fun e85 w86 =>
 ∃ p87 : Option Addr,
 ∃ k88 : Nat,
 ∃ k89 : Nat,
 (e85 = returned (slice p87 k88 k89)) ∧
 R (returned (slice p87 k88 k89)) w86)
 (R (returned (slice none (0 : Nat) (0 : Nat))) w7))
 (R (returned (slice none (0 : Nat) (0 : Nat))) w7)))))
 (∃ n90 : Int,
 (w7.cell? ⟨b1, 47, none⟩ = some (int i64 n90)) ∧
 Br (n90 == (1 : Int))
 (Br (decide (n10 ≥ n11))
 (∃ n91 : Int,
 (w7.cell? ⟨b1, 24, none⟩ = some (int i64 n91)) ∧
 Br (decide (n91 < n8))
 (Ca Try.prog (81 : Nat) #[pointer (some ⟨b1, 0, none⟩), int i64 (2)] w7 fun e92 w93 =>
 (e92 = returned (tuple #[])) ∧
 Ca Try.prog (80 : Nat) #[pointer (some ⟨b1, 0, none⟩)] w93 fun e94 w95 =>
 ∃ p96 : Option Addr,
 ∃ k97 : Nat,
 ∃ k98 : Nat,
 (e94 = returned (slice p96 k97 k98)) ∧
 R (returned (slice p96 k97 k98)) w95)
 (∃ n99 : Int,
 (w7.cell? ⟨b1, 47, none⟩ = some (int i64 n99)) ∧
 Br (n99 == (1 : Int))
 (Br (decide (n10 ≥ n11))
 (Br (decide (n10 ≥ n11))
 (Ca Try.prog (75 : Nat) #[pointer (some ⟨b1, 0, none⟩), int i64 n8] w7 fun e100 w101 =>
 ∃ p102 : Option Addr,
 ∃ k103 : Nat,
 ∃ k104 : Nat,
 (e100 = returned (slice p102 k103 k104)) ∧
 R (returned (slice p102 k103 k104)) w101)
 (R (returned (slice none (0 : Nat) (0 : Nat))) w7))
 (∃ n105 : Int,
 (w7.cell? ⟨b1, 47, none⟩ = some (int i64 n105)) ∧
 Br (n105 == (3 : Int))
 (∃ n106 : Int,
 (w7.cell? ⟨b1, 48, none⟩ = some (int i64 n106)) ∧
 Br (decide (n8 ≥ n106))
 (Ca Try.prog (75 : Nat) #[pointer (some ⟨b1, 0, none⟩), int i64 n8] w7 fun e107 w108 =>
 ∃ p109 : Option Addr,
 ∃ k110 : Nat,
 ∃ k111 : Nat,
 (e107 = returned (slice p109 k110 k111)) ∧
 R (returned (slice p109 k110 k111)) w108)
 (R (returned (slice none (0 : Nat) (0 : Nat))) w7))
 (R (returned (slice none (0 : Nat) (0 : Nat))) w7)))
 (∃ n112 : Int,
 (w7.cell? ⟨b1, 47, none⟩ = some (int i64 n112)) ∧
 Br (n112 == (3 : Int))
 (∃ n113 : Int,
 (w7.cell? ⟨b1, 48, none⟩ = some (int i64 n113)) ∧
 Br (decide (n8 ≥ n113))
 (Ca Try.prog (75 : Nat) #[pointer (some ⟨b1, 0, none⟩), int i64 n8] w7 fun e114 w115 =>
 ∃ p116 : Option Addr,
 ∃ k117 : Nat,
 ∃ k118 : Nat,
 (e114 = returned (slice p116 k117 k118)) ∧
 R (returned (slice p116 k117 k118)) w115)
 (R (returned (slice none (0 : Nat) (0 : Nat))) w7))
 (R (returned (slice none (0 : Nat) (0 : Nat))) w7))))
 (∃ n119 : Int,
 (w7.cell? ⟨b1, 47, none⟩ = some (int i64 n119)) ∧
 Br (n119 == (1 : Int))
 (Br (decide (n10 ≥ n11))
 (Br (decide (n10 ≥ n11))
 (Ca Try.prog (75 : Nat) #[pointer (some ⟨b1, 0, none⟩), int i64 n8] w7 fun e120 w121 =>
 ∃ p122 : Option Addr,
 ∃ k123 : Nat,
 ∃ k124 : Nat,
 (e120 = returned (slice p122 k123 k124)) ∧
 R (returned (slice p122 k123 k124)) w121)
 (R (returned (slice none (0 : Nat) (0 : Nat))) w7))
 (∃ n125 : Int,
 (w7.cell? ⟨b1, 47, none⟩ = some (int i64 n125)) ∧
 Br (n125 == (3 : Int))
 (∃ n126 : Int,
 (w7.cell? ⟨b1, 48, none⟩ = some (int i64 n126)) ∧
 Br (decide (n8 ≥ n126))
 (Ca Try.prog (75 : Nat) #[pointer (some ⟨b1, 0, none⟩), int i64 n8] w7 fun e127 w128 =>
 ∃ p129 : Option Addr,
 ∃ k130 : Nat,
 ∃ k131 : Nat,
 (e127 = returned (slice p129 k130 k131)) ∧
 R (returned (slice p129 k130 k131)) w128)
 (R (returned (slice none (0 : Nat) (0 : Nat))) w7))
 (R (returned (slice none (0 : Nat) (0 : Nat))) w7)))
 (∃ n132 : Int,
 (w7.cell? ⟨b1, 47, none⟩ = some (int i64 n132)) ∧
 Br (n132 == (3 : Int))
 (∃ n133 : Int,
 (w7.cell? ⟨b1, 48, none⟩ = some (int i64 n133)) ∧
 Br (decide (n8 ≥ n133))
 (Ca Try.prog (75 : Nat) #[pointer (some ⟨b1, 0, none⟩), int i64 n8] w7 fun e134 w135 =>
 ∃ p136 : Option Addr,
 ∃ k137 : Nat,
 ∃ k138 : Nat,
 (e134 = returned (slice p136 k137 k138)) ∧
 R (returned (slice p136 k137 k138)) w135)
 (R (returned (slice none (0 : Nat) (0 : Nat))) w7))
 (R (returned (slice none (0 : Nat) (0 : Nat))) w7))))
 (∃ n139 : Int,
 (w7.cell? ⟨b1, 47, none⟩ = some (int i64 n139)) ∧
 Br (n139 == (1 : Int))
 (Br (decide (n10 ≥ n11))
 (Br (decide (n10 ≥ n11))
 (Ca Try.prog (75 : Nat) #[pointer (some ⟨b1, 0, none⟩), int i64 n8] w7 fun e140 w141 =>
 ∃ p142 : Option Addr,
 ∃ k143 : Nat,
 ∃ k144 : Nat,
 (e140 = returned (slice p142 k143 k144)) ∧
 R (returned (slice p142 k143 k144)) w141)
 (R (returned (slice none (0 : Nat) (0 : Nat))) w7))
 (∃ n145 : Int,
 (w7.cell? ⟨b1, 47, none⟩ = some (int i64 n145)) ∧
 Br (n145 == (3 : Int))
 (∃ n146 : Int,
 (w7.cell? ⟨b1, 48, none⟩ = some (int i64 n146)) ∧
 Br (decide (n8 ≥ n146))
 (Ca Try.prog (75 : Nat) #[pointer (some ⟨b1, 0, none⟩), int i64 n8] w7 fun e147 w148 =>
 ∃ p149 : Option Addr,
 ∃ k150 : Nat,
 ∃ k151 : Nat,
 (e147 = returned (slice p149 k150 k151)) ∧
 R (returned (slice p149 k150 k151)) w148)
 (R (returned (slice none (0 : Nat) (0 : Nat))) w7))
 (R (returned (slice none (0 : Nat) (0 : Nat))) w7)))
 (∃ n152 : Int,
 (w7.cell? ⟨b1, 47, none⟩ = some (int i64 n152)) ∧
 Br (n152 == (3 : Int))
 (∃ n153 : Int,
 (w7.cell? ⟨b1, 48, none⟩ = some (int i64 n153)) ∧
 Br (decide (n8 ≥ n153))
 (Ca Try.prog (75 : Nat) #[pointer (some ⟨b1, 0, none⟩), int i64 n8] w7 fun e154 w155 =>
 ∃ p156 : Option Addr,
 ∃ k157 : Nat,
 ∃ k158 : Nat,
 (e154 = returned (slice p156 k157 k158)) ∧
 R (returned (slice p156 k157 k158)) w155)
 (R (returned (slice none (0 : Nat) (0 : Nat))) w7))
 (R (returned (slice none (0 : Nat) (0 : Nat))) w7)))))
theorem ktick_ok (b1 : Nat) (n2 : Int) (w : World) (R : Ending → World → Prop) (h : ktick b1 n2 w R) : Ca Try.prog 41 #[pointer (some ⟨b1, 0, none⟩), int i64 n2] w R :=
 Ca.of_fvc (c := bodyOf Try.f41) (by kernel_rfl) Try.func41 (by kernel_rfl) [] (Eq.mp (by kernel_rfl) h)

def ktick0 (n1 : Int) (w : World) (R : Ending → World → Prop) : Prop :=
 Ca Try.prog (70 : Nat) #[pointer none] w fun e2 w3 =>
 ∃ b4 : Bool,
 (e2 = returned (bool b4)) ∧
 Br (b4)
 (R (returned (slice none (0 : Nat) (0 : Nat))) w3)
 (Ca Try.prog (74 : Nat) #[int i64 n1] w3 fun e5 _w6 =>
 ∃ n7 : Int,
 (e5 = returned (int i64 n7)) ∧
 False)
theorem ktick0_ok (n1 : Int) (w : World) (R : Ending → World → Prop) (h : ktick0 n1 w R) : Ca Try.prog 41 #[pointer none, int i64 n1] w R :=
 Ca.of_fvc (c := bodyOf Try.f41) (by kernel_rfl) Try.func41 (by kernel_rfl) [] (Eq.mp (by kernel_rfl) h)

def koutcome (b1 : Nat) (w : World) (R : Ending → World → Prop) : Prop :=
 LetA (Obj.cells #[int i64 (0), int i64 (0), int i64 (0), string ⟨#[]⟩, int i64 (0), int i64 (0)] (80 : Nat)) w fun b2 w3 =>
 Ca Try.prog (70 : Nat) #[pointer (some ⟨b1, 0, none⟩)] w3 fun e4 w5 =>
 ∃ b6 : Bool,
 (e4 = returned (bool b6)) ∧
 Br (b6)
 ((
 WrRow w5 ⟨b2, 0, none⟩ (0 : Nat) [int i64 (0), int i64 (0), int i64 (0), string ⟨#[]⟩, int i64 (0), int i64 (0)]) ∧
 LetW (setRow w5 ⟨b2, 0, none⟩ (0 : Nat) [int i64 (0), int i64 (0), int i64 (0), string ⟨#[]⟩, int i64 (0), int i64 (0)]) fun w7 =>
 ∃ n8 : Int,
 ∃ n9 : Int,
 ∃ n10 : Int,
 ∃ s11 : ByteArray,
 ∃ n12 : Int,
 ∃ n13 : Int,
 (Row w7 ⟨b2, 0, none⟩ (0 : Nat) [int i64 n8, int i64 n9, int i64 n10, string s11, int i64 n12, int i64 n13]) ∧
 R (returned (tuple #[agg #[int i64 n8, int i64 n9, int i64 n10, string s11, int i64 n12, int i64 n13], bool false])) w7)
 (∃ p14 : Option Addr,
 (w5.cell? ⟨b1, 17, none⟩ = some (pointer p14)) ∧
 Ca Try.prog (76 : Nat) #[pointer p14] w5 fun e15 w16 =>
 ∃ n17 : Int,
 ∃ n18 : Int,
 ∃ n19 : Int,
 ∃ s20 : ByteArray,
 ∃ n21 : Int,
 ∃ n22 : Int,
 ∃ b23 : Bool,
 (e15 = returned (tuple #[agg #[int i64 n17, int i64 n18, int i64 n19, string s20, int i64 n21, int i64 n22], bool b23])) ∧
 (WrRow w16 ⟨b2, 0, none⟩ (0 : Nat) [int i64 n17, int i64 n18, int i64 n19, string s20, int i64 n21, int i64 n22]) ∧
 LetW (setRow w16 ⟨b2, 0, none⟩ (0 : Nat) [int i64 n17, int i64 n18, int i64 n19, string s20, int i64 n21, int i64 n22]) fun w24 =>
 ∃ n25 : Int,
 ∃ n26 : Int,
 ∃ n27 : Int,
 ∃ s28 : ByteArray,
 ∃ n29 : Int,
 ∃ n30 : Int,
 (Row w24 ⟨b2, 0, none⟩ (0 : Nat) [int i64 n25, int i64 n26, int i64 n27, string s28, int i64 n29, int i64 n30]) ∧
 R (returned (tuple #[agg #[int i64 n25, int i64 n26, int i64 n27, string s28, int i64 n29, int i64 n30], bool b23])) w24)
theorem koutcome_ok (b1 : Nat) (w : World) (R : Ending → World → Prop) (h : koutcome b1 w R) : Ca Try.prog 39 #[pointer (some ⟨b1, 0, none⟩)] w R :=
 Ca.of_fvc (c := bodyOf Try.f39) (by kernel_rfl) Try.func39 (by kernel_rfl) [] (Eq.mp (by kernel_rfl) h)

def koutcome0 (w : World) (R : Ending → World → Prop) : Prop :=
 LetA (Obj.cells #[int i64 (0), int i64 (0), int i64 (0), string ⟨#[]⟩, int i64 (0), int i64 (0)] (80 : Nat)) w fun b1 w2 =>
 Ca Try.prog (70 : Nat) #[pointer none] w2 fun e3 w4 =>
 ∃ b5 : Bool,
 (e3 = returned (bool b5)) ∧
 Br (b5)
 ((
 WrRow w4 ⟨b1, 0, none⟩ (0 : Nat) [int i64 (0), int i64 (0), int i64 (0), string ⟨#[]⟩, int i64 (0), int i64 (0)]) ∧
 LetW (setRow w4 ⟨b1, 0, none⟩ (0 : Nat) [int i64 (0), int i64 (0), int i64 (0), string ⟨#[]⟩, int i64 (0), int i64 (0)]) fun w6 =>
 ∃ n7 : Int,
 ∃ n8 : Int,
 ∃ n9 : Int,
 ∃ s10 : ByteArray,
 ∃ n11 : Int,
 ∃ n12 : Int,
 (Row w6 ⟨b1, 0, none⟩ (0 : Nat) [int i64 n7, int i64 n8, int i64 n9, string s10, int i64 n11, int i64 n12]) ∧
 R (returned (tuple #[agg #[int i64 n7, int i64 n8, int i64 n9, string s10, int i64 n11, int i64 n12], bool false])) w6)
 (False)
theorem koutcome0_ok (w : World) (R : Ending → World → Prop) (h : koutcome0  w R) : Ca Try.prog 39 #[pointer none] w R :=
 Ca.of_fvc (c := bodyOf Try.f39) (by kernel_rfl) Try.func39 (by kernel_rfl) [] (Eq.mp (by kernel_rfl) h)

def kbusy (b1 : Nat) (w : World) (R : Ending → World → Prop) : Prop :=
 Ca Try.prog (70 : Nat) #[pointer (some ⟨b1, 0, none⟩)] w fun e2 w3 =>
 ∃ b4 : Bool,
 (e2 = returned (bool b4)) ∧
 Br (!b4)
 (∃ n5 : Int,
 (w3.cell? ⟨b1, 47, none⟩ = some (int i64 n5)) ∧
 R (returned (bool (n5 != (0 : Int)))) w3)
 (R (returned (bool false)) w3)
theorem kbusy_ok (b1 : Nat) (w : World) (R : Ending → World → Prop) (h : kbusy b1 w R) : Ca Try.prog 42 #[pointer (some ⟨b1, 0, none⟩)] w R :=
 Ca.of_fvc (c := bodyOf Try.f42) (by kernel_rfl) Try.func42 (by kernel_rfl) [] (Eq.mp (by kernel_rfl) h)

def kbusy0 (w : World) (R : Ending → World → Prop) : Prop :=
 Ca Try.prog (70 : Nat) #[pointer none] w fun e1 w2 =>
 ∃ b3 : Bool,
 (e1 = returned (bool b3)) ∧
 Br (!b3)
 (False)
 (R (returned (bool false)) w2)
theorem kbusy0_ok (w : World) (R : Ending → World → Prop) (h : kbusy0  w R) : Ca Try.prog 42 #[pointer none] w R :=
 Ca.of_fvc (c := bodyOf Try.f42) (by kernel_rfl) Try.func42 (by kernel_rfl) [] (Eq.mp (by kernel_rfl) h)

def kseq (b1 : Nat) (w : World) (R : Ending → World → Prop) : Prop :=
 Ca Try.prog (70 : Nat) #[pointer (some ⟨b1, 0, none⟩)] w fun e2 w3 =>
 ∃ b4 : Bool,
 (e2 = returned (bool b4)) ∧
 Br (b4)
 (R (returned (int i64 (0))) w3)
 (∃ n5 : Int,
 (w3.cell? ⟨b1, 21, none⟩ = some (int i64 n5)) ∧
 R (returned (int i64 n5)) w3)
theorem kseq_ok (b1 : Nat) (w : World) (R : Ending → World → Prop) (h : kseq b1 w R) : Ca Try.prog 43 #[pointer (some ⟨b1, 0, none⟩)] w R :=
 Ca.of_fvc (c := bodyOf Try.f43) (by kernel_rfl) Try.func43 (by kernel_rfl) [] (Eq.mp (by kernel_rfl) h)

def kseq0 (w : World) (R : Ending → World → Prop) : Prop :=
 Ca Try.prog (70 : Nat) #[pointer none] w fun e1 w2 =>
 ∃ b3 : Bool,
 (e1 = returned (bool b3)) ∧
 Br (b3)
 (R (returned (int i64 (0))) w2)
 (False)
theorem kseq0_ok (w : World) (R : Ending → World → Prop) (h : kseq0  w R) : Ca Try.prog 43 #[pointer none] w R :=
 Ca.of_fvc (c := bodyOf Try.f43) (by kernel_rfl) Try.func43 (by kernel_rfl) [] (Eq.mp (by kernel_rfl) h)

def ktries (b1 : Nat) (w : World) (R : Ending → World → Prop) : Prop :=
 Ca Try.prog (70 : Nat) #[pointer (some ⟨b1, 0, none⟩)] w fun e2 w3 =>
 ∃ b4 : Bool,
 (e2 = returned (bool b4)) ∧
 Br (b4)
 (R (returned (int i64 (0))) w3)
 (∃ n5 : Int,
 (w3.cell? ⟨b1, 22, none⟩ = some (int i64 n5)) ∧
 R (returned (int i64 n5)) w3)
theorem ktries_ok (b1 : Nat) (w : World) (R : Ending → World → Prop) (h : ktries b1 w R) : Ca Try.prog 44 #[pointer (some ⟨b1, 0, none⟩)] w R :=
 Ca.of_fvc (c := bodyOf Try.f44) (by kernel_rfl) Try.func44 (by kernel_rfl) [] (Eq.mp (by kernel_rfl) h)

def ktries0 (w : World) (R : Ending → World → Prop) : Prop :=
 Ca Try.prog (70 : Nat) #[pointer none] w fun e1 w2 =>
 ∃ b3 : Bool,
 (e1 = returned (bool b3)) ∧
 Br (b3)
 (R (returned (int i64 (0))) w2)
 (False)
theorem ktries0_ok (w : World) (R : Ending → World → Prop) (h : ktries0  w R) : Ca Try.prog 44 #[pointer none] w R :=
 Ca.of_fvc (c := bodyOf Try.f44) (by kernel_rfl) Try.func44 (by kernel_rfl) [] (Eq.mp (by kernel_rfl) h)

def knew (n1 : Int) (n2 : Int) (n3 : Int) (p4 : Option Addr) (k5 : Nat) (k6 : Nat) (n7 : Int) (n8 : Int) (n9 : Int) (n10 : Int) (n11 : Int) (n12 : Int) (n13 : Int) (n14 : Int) (n15 : Int) (w : World) (R : Ending → World → Prop) : Prop :=
 LetA (Obj.cells #[int i64 n1, int i64 n2, int i64 n3, slice p4 k5 k6, int i64 n7, int i64 n8, int i64 n9, int i64 n10, int i64 n11, int i64 n12, int i64 n13, int i64 n14] (24 : Nat)) w fun b16 w17 =>
 ∃ n18 : Int,
 ∃ n19 : Int,
 ∃ n20 : Int,
 ∃ p21 : Option Addr,
 ∃ k22 : Nat,
 ∃ k23 : Nat,
 ∃ n24 : Int,
 ∃ n25 : Int,
 ∃ n26 : Int,
 ∃ n27 : Int,
 ∃ n28 : Int,
 ∃ n29 : Int,
 ∃ n30 : Int,
 ∃ n31 : Int,
 (Row w17 ⟨b16, 0, none⟩ (0 : Nat) [int i64 n18, int i64 n19, int i64 n20, slice p21 k22 k23, int i64 n24, int i64 n25, int i64 n26, int i64 n27, int i64 n28, int i64 n29, int i64 n30, int i64 n31]) ∧
 Ca Try.prog (16 : Nat) #[agg #[int i64 n18, int i64 n19, int i64 n20, slice p21 k22 k23, int i64 n24, int i64 n25, int i64 n26, int i64 n27, int i64 n28, int i64 n29, int i64 n30, int i64 n31]] w17 fun e32 w33 =>
 ∃ n34 : Int,
 (e32 = returned (int i64 n34)) ∧
 Br (n34 != (0 : Int))
 (R (returned (tuple #[pointer none, int i64 n34])) w33)
 (Br (decide (n15 < (0 : Int)))
 (R (returned (tuple #[pointer none, int i64 (2)])) w33)
 (∃ n35 : Int,
 (w33.cell? ⟨b16, 2, none⟩ = some (int i64 n35)) ∧
 Br (decide (n15 ≥ n35))
 (R (returned (tuple #[pointer none, int i64 (2)])) w33)
 (∃ n36 : Int,
 (w33.cell? ⟨b16, 10, none⟩ = some (int i64 n36)) ∧
 ∃ n37 : Int,
 (w33.cell? ⟨b16, 11, none⟩ = some (int i64 n37)) ∧
 Ca Try.prog (82 : Nat) #[int i64 n36, int i64 n37] w33 fun e38 w39 =>
 ∃ p40 : Option Addr,
 ∃ n41 : Int,
 (e38 = returned (tuple #[pointer p40, int i64 n41])) ∧
 Br (n41 != (0 : Int))
 (R (returned (tuple #[pointer none, int i64 n41])) w39)
 (∃ n42 : Int,
 ∃ n43 : Int,
 ∃ n44 : Int,
 ∃ p45 : Option Addr,
 ∃ k46 : Nat,
 ∃ k47 : Nat,
 ∃ n48 : Int,
 ∃ n49 : Int,
 ∃ n50 : Int,
 ∃ n51 : Int,
 ∃ n52 : Int,
 ∃ n53 : Int,
 ∃ n54 : Int,
 ∃ n55 : Int,
 (Row w39 ⟨b16, 0, none⟩ (0 : Nat) [int i64 n42, int i64 n43, int i64 n44, slice p45 k46 k47, int i64 n48, int i64 n49, int i64 n50, int i64 n51, int i64 n52, int i64 n53, int i64 n54, int i64 n55]) ∧
 Ca Try.prog (72 : Nat) #[] w39 fun e56 w57 =>
 ∃ p58 : Option Addr,
 (e56 = returned (pointer p58)) ∧
 (Row w57 ⟨b16, 0, none⟩ (0 : Nat) [int i64 n42, int i64 n43, int i64 n44, slice p45 k46 k47, int i64 n48, int i64 n49, int i64 n50, int i64 n51, int i64 n52, int i64 n53, int i64 n54, int i64 n55]) ∧
 LetA (Obj.cells #[int i64 n42, int i64 n43, int i64 n44, slice p45 k46 k47, int i64 n48, int i64 n49, int i64 n50, int i64 n51, int i64 n52, int i64 n53, int i64 n54, int i64 n55, int i64 n15, int i64 (0), slice none (0 : Nat) (0 : Nat), int i64 (0), pointer p40, pointer p58, int i64 (0), int i64 (0), int i64 (0), int i64 (0), int i64 (0), int i64 (0), int i64 (0), int i64 (0), string ⟨#[]⟩, string ⟨#[]⟩, int i64 (0), int i64 (0), string ⟨#[]⟩, int i64 (0), int i64 (0), int i64 (0), int i64 (0), int i64 (0), int i64 (0), int i64 (0), string ⟨#[]⟩, string ⟨#[]⟩, int i64 (0), int i64 (0), slice none (0 : Nat) (0 : Nat), int i64 (0), int i64 (0), int i64 (0), int i64 (0), int i64 (0), int i64 (0), bool false] (88 : Nat)) w57 fun b59 w60 =>
 R (returned (tuple #[pointer (some ⟨b59, 0, none⟩), int i64 (0)])) w60))))
theorem knew_ok (n1 : Int) (n2 : Int) (n3 : Int) (p4 : Option Addr) (k5 : Nat) (k6 : Nat) (n7 : Int) (n8 : Int) (n9 : Int) (n10 : Int) (n11 : Int) (n12 : Int) (n13 : Int) (n14 : Int) (n15 : Int) (w : World) (R : Ending → World → Prop) (h : knew n1 n2 n3 p4 k5 k6 n7 n8 n9 n10 n11 n12 n13 n14 n15 w R) : Ca Try.prog 45 #[agg #[int i64 n1, int i64 n2, int i64 n3, slice p4 k5 k6, int i64 n7, int i64 n8, int i64 n9, int i64 n10, int i64 n11, int i64 n12, int i64 n13, int i64 n14], int i64 n15] w R :=
 Ca.of_fvc (c := bodyOf Try.f45) (by kernel_rfl) Try.func45 (by kernel_rfl) [] (Eq.mp (by kernel_rfl) h)

def rknew (n1 : Int) (n2 : Int) (n3 : Int) (p4 : Option Addr) (k5 : Nat) (k6 : Nat) (n7 : Int) (n8 : Int) (n9 : Int) (n10 : Int) (n11 : Int) (n12 : Int) (n13 : Int) (n14 : Int) (n15 : Int) (w : World) (R : Ending → World → Prop) : Prop :=
 LetA (Obj.cells #[int i64 n1, int i64 n2, int i64 n3, slice p4 k5 k6, int i64 n7, int i64 n8, int i64 n9, int i64 n10, int i64 n11, int i64 n12, int i64 n13, int i64 n14] (24 : Nat)) w fun b16 w17 =>
 ∃ n18 : Int,
 ∃ n19 : Int,
 ∃ n20 : Int,
 ∃ p21 : Option Addr,
 ∃ k22 : Nat,
 ∃ k23 : Nat,
 ∃ n24 : Int,
 ∃ n25 : Int,
 ∃ n26 : Int,
 ∃ n27 : Int,
 ∃ n28 : Int,
 ∃ n29 : Int,
 ∃ n30 : Int,
 ∃ n31 : Int,
 (Row w17 ⟨b16, 0, none⟩ (0 : Nat) [int i64 n18, int i64 n19, int i64 n20, slice p21 k22 k23, int i64 n24, int i64 n25, int i64 n26, int i64 n27, int i64 n28, int i64 n29, int i64 n30, int i64 n31]) ∧
 Ca Try.prog (17 : Nat) #[agg #[int i64 n18, int i64 n19, int i64 n20, slice p21 k22 k23, int i64 n24, int i64 n25, int i64 n26, int i64 n27, int i64 n28, int i64 n29, int i64 n30, int i64 n31]] w17 fun e32 w33 =>
 ∃ n34 : Int,
 (e32 = returned (int i64 n34)) ∧
 Br (n34 != (0 : Int))
 (R (returned (tuple #[pointer none, int i64 (2)])) w33)
 (Br (decide (n15 < (0 : Int)))
 (R (returned (tuple #[pointer none, int i64 (2)])) w33)
 (∃ n35 : Int,
 (w33.cell? ⟨b16, 2, none⟩ = some (int i64 n35)) ∧
 Br (decide (n15 ≥ n35))
 (R (returned (tuple #[pointer none, int i64 (2)])) w33)
 (∃ n36 : Int,
 (w33.cell? ⟨b16, 10, none⟩ = some (int i64 n36)) ∧
 ∃ n37 : Int,
 (w33.cell? ⟨b16, 11, none⟩ = some (int i64 n37)) ∧
 Ca Try.prog (83 : Nat) #[int i64 n36, int i64 n37] w33 fun e38 w39 =>
 ∃ p40 : Option Addr,
 ∃ n41 : Int,
 (e38 = returned (tuple #[pointer p40, int i64 n41])) ∧
 Br (n41 != (0 : Int))
 (R (returned (tuple #[pointer none, int i64 n41])) w39)
 (∃ n42 : Int,
 ∃ n43 : Int,
 ∃ n44 : Int,
 ∃ p45 : Option Addr,
 ∃ k46 : Nat,
 ∃ k47 : Nat,
 ∃ n48 : Int,
 ∃ n49 : Int,
 ∃ n50 : Int,
 ∃ n51 : Int,
 ∃ n52 : Int,
 ∃ n53 : Int,
 ∃ n54 : Int,
 ∃ n55 : Int,
 (Row w39 ⟨b16, 0, none⟩ (0 : Nat) [int i64 n42, int i64 n43, int i64 n44, slice p45 k46 k47, int i64 n48, int i64 n49, int i64 n50, int i64 n51, int i64 n52, int i64 n53, int i64 n54, int i64 n55]) ∧
 LetA (Obj.cells #[int i64 n42, int i64 n43, int i64 n44, slice p45 k46 k47, int i64 n48, int i64 n49, int i64 n50, int i64 n51, int i64 n52, int i64 n53, int i64 n54, int i64 n55, int i64 n15, int i64 (0), slice none (0 : Nat) (0 : Nat), int i64 (0), pointer p40, int i64 (0), int i64 (0), int i64 (0), int i64 (0), int i64 (0), int i64 (0), int i64 (0), int i64 (0), string ⟨#[]⟩, string ⟨#[]⟩, int i64 (0), int i64 (0), string ⟨#[]⟩, int i64 (0), int i64 (0), int i64 (0), int i64 (0), int i64 (0), int i64 (0), int i64 (0), string ⟨#[]⟩, string ⟨#[]⟩, int i64 (0), int i64 (0), slice none (0 : Nat) (0 : Nat), int i64 (0), int i64 (0), int i64 (0), int i64 (0), int i64 (0), int i64 (0), bool false, bool false, int i64 (0), int i64 (0), int i64 (0), string ⟨#[]⟩, int i64 (0), int i64 (0)] (126 : Nat)) w39 fun b56 w57 =>
 R (returned (tuple #[pointer (some ⟨b56, 0, none⟩), int i64 (0)])) w57))))
theorem rknew_ok (n1 : Int) (n2 : Int) (n3 : Int) (p4 : Option Addr) (k5 : Nat) (k6 : Nat) (n7 : Int) (n8 : Int) (n9 : Int) (n10 : Int) (n11 : Int) (n12 : Int) (n13 : Int) (n14 : Int) (n15 : Int) (w : World) (R : Ending → World → Prop) (h : rknew n1 n2 n3 p4 k5 k6 n7 n8 n9 n10 n11 n12 n13 n14 n15 w R) : Ca Try.prog 46 #[agg #[int i64 n1, int i64 n2, int i64 n3, slice p4 k5 k6, int i64 n7, int i64 n8, int i64 n9, int i64 n10, int i64 n11, int i64 n12, int i64 n13, int i64 n14], int i64 n15] w R :=
 Ca.of_fvc (c := bodyOf Try.f46) (by kernel_rfl) Try.func46 (by kernel_rfl) [] (Eq.mp (by kernel_rfl) h)

def kgreat (p1 : Option Addr) (k2 : Nat) (_k3 : Nat) (n4 : Int) (w : World) (R : Ending → World → Prop) : Prop :=
 ∃ I5 : Nat → List Value → World → Prop,
 (∃ k6 : Nat,
 I5 k6 [bool false, int i64 (0)] w) ∧
 ∀ b7 : Bool,
 ∀ n8 : Int,
 ∀ k9 : Nat,
 ∀ w10 : World,
 (I5 k9 [bool b7, int i64 n8] w10) →
 Br (decide (n8 < (↑k2 : Int)))
 (NilOk p1 fun a11 =>
 ((
 (0 : Int) ≤ n8) ∧
 n8 < (↑k2 : Int)) ∧
 ∃ n12 : Int,
 ∃ n13 : Int,
 ∃ n14 : Int,
 ∃ n15 : Int,
 ∃ s16 : ByteArray,
 ∃ s17 : ByteArray,
 ∃ n18 : Int,
 ∃ n19 : Int,
 ∃ n20 : Int,
 ∃ n21 : Int,
 ∃ n22 : Int,
 ∃ n23 : Int,
 ∃ n24 : Int,
 ∃ n25 : Int,
 ∃ n26 : Int,
 ∃ s27 : ByteArray,
 ∃ s28 : ByteArray,
 ∃ n29 : Int,
 ∃ n30 : Int,
 ∃ s31 : ByteArray,
 ∃ n32 : Int,
 ∃ n33 : Int,
 ∃ n34 : Int,
 ∃ n35 : Int,
 ∃ n36 : Int,
 ∃ n37 : Int,
 ∃ n38 : Int,
 ∃ s39 : ByteArray,
 ∃ s40 : ByteArray,
 ∃ n41 : Int,
 ∃ n42 : Int,
 ∃ p43 : Option Addr,
 ∃ k44 : Nat,
 ∃ k45 : Nat,
 ∃ n46 : Int,
 ∃ n47 : Int,
 ∃ n48 : Int,
 ∃ n49 : Int,
 ∃ n50 : Int,
 ∃ n51 : Int,
 ∃ n52 : Int,
 (Row w10 (a11.add (n8.toNat * (39 : Nat))) (0 : Nat) [int u8 n12, int u8 n13, int u8 n14, int i64 n15, string s16, string s17, int i64 n18, int i64 n19, int i64 n20, int i64 n21, int i64 n22, int i64 n23, int i64 n24, int i64 n25, int i64 n26, string s27, string s28, int i64 n29, int i64 n30, string s31, int i64 n32, int i64 n33, int i64 n34, int i64 n35, int i64 n36, int i64 n37, int i64 n38, string s39, string s40, int i64 n41, int i64 n42, slice p43 k44 k45, int i64 n46, int i64 n47, int i64 n48, int i64 n49, int i64 n50, int i64 n51, int i64 n52]) ∧
 LetA (Obj.cells #[int u8 (0 : Int), int u8 (0 : Int), int u8 (0 : Int), int i64 (0), string ⟨#[]⟩, string ⟨#[]⟩, int i64 (0), int i64 (0), int i64 (0), int i64 (0), int i64 (0), int i64 (0), int i64 (0), int i64 (0), int i64 (0), string ⟨#[]⟩, string ⟨#[]⟩, int i64 (0), int i64 (0), string ⟨#[]⟩, int i64 (0), int i64 (0), int i64 (0), int i64 (0), int i64 (0), int i64 (0), int i64 (0), string ⟨#[]⟩, string ⟨#[]⟩, int i64 (0), int i64 (0), slice none (0 : Nat) (0 : Nat), int i64 (0), int i64 (0), int i64 (0), int i64 (0), int i64 (0), int i64 (0), int i64 (0)] (74 : Nat)) w10 fun b53 w54 =>
 (WrRow w54 ⟨b53, 0, none⟩ (0 : Nat) [int u8 n12, int u8 n13, int u8 n14, int i64 n15, string s16, string s17, int i64 n18, int i64 n19, int i64 n20, int i64 n21, int i64 n22, int i64 n23, int i64 n24, int i64 n25, int i64 n26, string s27, string s28, int i64 n29, int i64 n30, string s31, int i64 n32, int i64 n33, int i64 n34, int i64 n35, int i64 n36, int i64 n37, int i64 n38, string s39, string s40, int i64 n41, int i64 n42, slice p43 k44 k45, int i64 n46, int i64 n47, int i64 n48, int i64 n49, int i64 n50, int i64 n51, int i64 n52]) ∧
 LetW (setRow w54 ⟨b53, 0, none⟩ (0 : Nat) [int u8 n12, int u8 n13, int u8 n14, int i64 n15, string s16, string s17, int i64 n18, int i64 n19, int i64 n20, int i64 n21, int i64 n22, int i64 n23, int i64 n24, int i64 n25, int i64 n26, string s27, string s28, int i64 n29, int i64 n30, string s31, int i64 n32, int i64 n33, int i64 n34, int i64 n35, int i64 n36, int i64 n37, int i64 n38, string s39, string s40, int i64 n41, int i64 n42, slice p43 k44 k45, int i64 n46, int i64 n47, int i64 n48, int i64 n49, int i64 n50, int i64 n51, int i64 n52]) fun w55 =>
 ∃ s56 : ByteArray,
 (w55.cell? ⟨b53, 4, none⟩ = some (string s56)) ∧
 Br (decide ((↑s56.size : Int) > (200 : Int)))
 (R (returned (bool true)) w55)
 (∃ s57 : ByteArray,
 (w55.cell? ⟨b53, 5, none⟩ = some (string s57)) ∧
 Br (decide ((↑s57.size : Int) > (200 : Int)))
 (R (returned (bool true)) w55)
 (∃ s58 : ByteArray,
 (w55.cell? ⟨b53, 15, none⟩ = some (string s58)) ∧
 Br (decide ((↑s58.size : Int) > (200 : Int)))
 (R (returned (bool true)) w55)
 (∃ s59 : ByteArray,
 (w55.cell? ⟨b53, 16, none⟩ = some (string s59)) ∧
 Br (decide ((↑s59.size : Int) > (200 : Int)))
 (R (returned (bool true)) w55)
 (∃ s60 : ByteArray,
 (w55.cell? ⟨b53, 19, none⟩ = some (string s60)) ∧
 Br (decide ((↑s60.size : Int) > (200 : Int)))
 (R (returned (bool true)) w55)
 (∃ p61 : Option Addr,
 ∃ k62 : Nat,
 ∃ k63 : Nat,
 (w55.cell? ⟨b53, 31, none⟩ = some (slice p61 k62 k63)) ∧
 Br (decide ((↑k62 : Int) > (10 : Int)))
 (R (returned (bool true)) w55)
 (LetI (i64.wrap (n8 + (1 : Int))) fun n64 =>
 ∃ k65 : Nat,
 (k65 < k9) ∧
 I5 k65 [bool b7, int i64 n64] w55)))))))
 (R (returned (bool (decide ((↑k2 : Int) > n4)))) w10)
theorem kgreat_ok (p1 : Option Addr) (k2 : Nat) (k3 : Nat) (n4 : Int) (w : World) (R : Ending → World → Prop) (h : kgreat p1 k2 k3 n4 w R) : Ca Try.prog 36 #[slice p1 k2 k3, int i64 n4] w R :=
 Ca.of_fvc (c := bodyOf Try.f36) (by kernel_rfl) Try.func36 (by kernel_rfl) [] (Eq.mp (by kernel_rfl) h)

def kto (p1 : Option Addr) (k2 : Nat) (_k3 : Nat) (n4 : Int) (n5 : Int) (w : World) (R : Ending → World → Prop) : Prop :=
 Br ((↑k2 : Int) == (1 : Int))
 (NilOk p1 fun a6 =>
 ((
 (0 : Int) ≤ (0 : Int)) ∧
 (0 : Int) < (↑k2 : Int)) ∧
 ∃ n7 : Int,
 (w.cell? a6 = some (int i64 n7)) ∧
 Br (n7 == n4)
 (NilOk p1 fun a8 =>
 ((
 (0 : Int) ≤ (0 : Int)) ∧
 (0 : Int) < (↑k2 : Int)) ∧
 ∃ n9 : Int,
 (w.cell? (a8.add (1 : Nat)) = some (int i64 n9)) ∧
 R (returned (bool (n9 == n5))) w)
 (R (returned (bool false)) w))
 (R (returned (bool false)) w)
theorem kto_ok (p1 : Option Addr) (k2 : Nat) (k3 : Nat) (n4 : Int) (n5 : Int) (w : World) (R : Ending → World → Prop) (h : kto p1 k2 k3 n4 n5 w R) : Ca Try.prog 69 #[slice p1 k2 k3, int i64 n4, int i64 n5] w R :=
 Ca.of_fvc (c := bodyOf Try.f69) (by kernel_rfl) Try.func69 (by kernel_rfl) [] (Eq.mp (by kernel_rfl) h)

def kcalled (w : World) (R : Ending → World → Prop) : Prop :=
 Ca Try.prog (14 : Nat) #[agg #[int i64 (0), int i64 (0), int i64 (0), slice none (0 : Nat) (0 : Nat), int i64 (0), int i64 (0), int i64 (0), int i64 (0), int i64 (0), int i64 (0), int i64 (1), int i64 (0)]] w fun e1 w2 =>
 ∃ n3 : Int,
 ∃ n4 : Int,
 ∃ n5 : Int,
 ∃ p6 : Option Addr,
 ∃ k7 : Nat,
 ∃ k8 : Nat,
 ∃ n9 : Int,
 ∃ n10 : Int,
 ∃ n11 : Int,
 ∃ n12 : Int,
 ∃ n13 : Int,
 ∃ n14 : Int,
 ∃ n15 : Int,
 ∃ n16 : Int,
 (e1 = returned (agg #[int i64 n3, int i64 n4, int i64 n5, slice p6 k7 k8, int i64 n9, int i64 n10, int i64 n11, int i64 n12, int i64 n13, int i64 n14, int i64 n15, int i64 n16])) ∧
 LetA (Obj.cells #[int i64 (0), int i64 (0), int i64 (0), slice none (0 : Nat) (0 : Nat), int i64 (0), int i64 (0), int i64 (0), int i64 (0), int i64 (0), int i64 (0), int i64 (0), int i64 (0)] (24 : Nat)) w2 fun b17 w18 =>
 (WrRow w18 ⟨b17, 0, none⟩ (0 : Nat) [int i64 n3, int i64 n4, int i64 n5, slice p6 k7 k8, int i64 n9, int i64 n10, int i64 n11, int i64 n12, int i64 n13, int i64 n14, int i64 n15, int i64 n16]) ∧
 LetW (setRow w18 ⟨b17, 0, none⟩ (0 : Nat) [int i64 n3, int i64 n4, int i64 n5, slice p6 k7 k8, int i64 n9, int i64 n10, int i64 n11, int i64 n12, int i64 n13, int i64 n14, int i64 n15, int i64 n16]) fun w19 =>
 ∃ n20 : Int,
 ∃ n21 : Int,
 ∃ n22 : Int,
 ∃ p23 : Option Addr,
 ∃ k24 : Nat,
 ∃ k25 : Nat,
 ∃ n26 : Int,
 ∃ n27 : Int,
 ∃ n28 : Int,
 ∃ n29 : Int,
 ∃ n30 : Int,
 ∃ n31 : Int,
 ∃ n32 : Int,
 ∃ n33 : Int,
 (Row w19 ⟨b17, 0, none⟩ (0 : Nat) [int i64 n20, int i64 n21, int i64 n22, slice p23 k24 k25, int i64 n26, int i64 n27, int i64 n28, int i64 n29, int i64 n30, int i64 n31, int i64 n32, int i64 n33]) ∧
 Ca Try.prog (19 : Nat) #[agg #[int i64 n20, int i64 n21, int i64 n22, slice p23 k24 k25, int i64 n26, int i64 n27, int i64 n28, int i64 n29, int i64 n30, int i64 n31, int i64 n32, int i64 n33]] w19 fun e34 w35 =>
 ∃ n36 : Int,
 ∃ p37 : Option Addr,
 ∃ k38 : Nat,
 ∃ k39 : Nat,
 ∃ n40 : Int,
 ∃ n41 : Int,
 (e34 = returned (tuple #[agg #[int i64 n36, slice p37 k38 k39, int i64 n40], int i64 n41])) ∧
 LetA (Obj.cells #[int i64 (0), slice none (0 : Nat) (0 : Nat), int i64 (0)] (32 : Nat)) w35 fun b42 w43 =>
 (WrRow w43 ⟨b42, 0, none⟩ (0 : Nat) [int i64 n36, slice p37 k38 k39, int i64 n40]) ∧
 LetW (setRow w43 ⟨b42, 0, none⟩ (0 : Nat) [int i64 n36, slice p37 k38 k39, int i64 n40]) fun w44 =>
 ∃ n45 : Int,
 ∃ n46 : Int,
 ∃ n47 : Int,
 ∃ p48 : Option Addr,
 ∃ k49 : Nat,
 ∃ k50 : Nat,
 ∃ n51 : Int,
 ∃ n52 : Int,
 ∃ n53 : Int,
 ∃ n54 : Int,
 ∃ n55 : Int,
 ∃ n56 : Int,
 ∃ n57 : Int,
 ∃ n58 : Int,
 (Row w44 ⟨b17, 0, none⟩ (0 : Nat) [int i64 n45, int i64 n46, int i64 n47, slice p48 k49 k50, int i64 n51, int i64 n52, int i64 n53, int i64 n54, int i64 n55, int i64 n56, int i64 n57, int i64 n58]) ∧
 Ca Try.prog (45 : Nat) #[agg #[int i64 n45, int i64 n46, int i64 n47, slice p48 k49 k50, int i64 n51, int i64 n52, int i64 n53, int i64 n54, int i64 n55, int i64 n56, int i64 n57, int i64 n58], int i64 (0)] w44 fun e59 w60 =>
 ∃ p61 : Option Addr,
 ∃ n62 : Int,
 (e59 = returned (tuple #[pointer p61, int i64 n62])) ∧
 Br (n62 != (0 : Int))
 (R (returned (bool false)) w60)
 (Ca Try.prog (38 : Nat) #[pointer p61, agg #[int i64 (2), string { data := #[(107 : UInt8)] }, string { data := #[(118 : UInt8)] }, int i64 (0)], int i64 (0), int i64 (100), int i64 (0)] w60 fun e63 w64 =>
 ∃ p65 : Option Addr,
 ∃ k66 : Nat,
 ∃ k67 : Nat,
 ∃ n68 : Int,
 (e63 = returned (tuple #[slice p65 k66 k67, int i64 n68])) ∧
 ∃ n69 : Int,
 ∃ p70 : Option Addr,
 ∃ k71 : Nat,
 ∃ k72 : Nat,
 ∃ n73 : Int,
 (Row w64 ⟨b42, 0, none⟩ (0 : Nat) [int i64 n69, slice p70 k71 k72, int i64 n73]) ∧
 Ca Try.prog (40 : Nat) #[pointer p61, agg #[int i64 (8), int i64 (0), int i64 (0), int i64 (0), int i64 (0), int i64 (0), int i64 (0), int i64 (0), string ⟨#[]⟩, string ⟨#[]⟩, int i64 (0), int i64 (0), string ⟨#[]⟩, int i64 (0), int i64 (0), int i64 (0), int i64 (0), int i64 (0), int i64 (0), int i64 (0), string ⟨#[]⟩, string ⟨#[]⟩, int i64 (0), int i64 n69, slice p70 k71 k72, int i64 n73, int i64 (0), int i64 (0), int i64 (0)], int i64 (0)] w64 fun e74 w75 =>
 ∃ p76 : Option Addr,
 ∃ k77 : Nat,
 ∃ k78 : Nat,
 (e74 = returned (slice p76 k77 k78)) ∧
 Br (n68 != (0 : Int))
 (R (returned (bool false)) w75)
 (Ca Try.prog (69 : Nat) #[slice p65 k66 k67, int i64 (16), int i64 (7)] w75 fun e79 w80 =>
 ∃ b81 : Bool,
 (e79 = returned (bool b81)) ∧
 Br (!b81)
 (R (returned (bool false)) w80)
 (Ca Try.prog (69 : Nat) #[slice p76 k77 k78, int i64 (0), int i64 (1)] w80 fun e82 w83 =>
 ∃ b84 : Bool,
 (e82 = returned (bool b84)) ∧
 Br (!b84)
 (R (returned (bool false)) w83)
 (NilOk p76 fun a85 =>
 ((
 (0 : Int) ≤ (0 : Int)) ∧
 (0 : Int) < (↑k77 : Int)) ∧
 ∃ n86 : Int,
 (w83.cell? ((a85.add (1 : Nat)).add (4 : Nat)) = some (int i64 n86)) ∧
 Br (n86 != (1 : Int))
 (R (returned (bool false)) w83)
 (Ca Try.prog (41 : Nat) #[pointer p61, int i64 (3)] w83 fun e87 w88 =>
 ∃ p89 : Option Addr,
 ∃ k90 : Nat,
 ∃ k91 : Nat,
 (e87 = returned (slice p89 k90 k91)) ∧
 Br ((↑k90 : Int) != (0 : Int))
 (R (returned (bool false)) w88)
 (Ca Try.prog (40 : Nat) #[pointer p61, agg #[int i64 (3), int i64 (0), int i64 (0), int i64 (1), int i64 (1), int i64 (0), int i64 (0), int i64 (0), string ⟨#[]⟩, string ⟨#[]⟩, int i64 (0), int i64 (0), string ⟨#[]⟩, int i64 (0), int i64 (0), int i64 (1), int i64 (0), int i64 (0), int i64 (0), int i64 (0), string ⟨#[]⟩, string ⟨#[]⟩, int i64 (0), int i64 (0), slice none (0 : Nat) (0 : Nat), int i64 (0), int i64 (0), int i64 (0), int i64 (0)], int i64 (3)] w88 fun e92 w93 =>
 ∃ p94 : Option Addr,
 ∃ k95 : Nat,
 ∃ k96 : Nat,
 (e92 = returned (slice p94 k95 k96)) ∧
 Br ((↑k95 : Int) != (0 : Int))
 (R (returned (bool false)) w93)
 (Ca Try.prog (41 : Nat) #[pointer p61, int i64 (3)] w93 fun e97 w98 =>
 ∃ p99 : Option Addr,
 ∃ k100 : Nat,
 ∃ k101 : Nat,
 (e97 = returned (slice p99 k100 k101)) ∧
 Br ((↑k100 : Int) != (0 : Int))
 (R (returned (bool false)) w98)
 (Ca Try.prog (41 : Nat) #[pointer p61, int i64 (4)] w98 fun e102 w103 =>
 ∃ p104 : Option Addr,
 ∃ k105 : Nat,
 ∃ k106 : Nat,
 (e102 = returned (slice p104 k105 k106)) ∧
 ∃ n107 : Int,
 ∃ p108 : Option Addr,
 ∃ k109 : Nat,
 ∃ k110 : Nat,
 ∃ n111 : Int,
 (Row w103 ⟨b42, 0, none⟩ (0 : Nat) [int i64 n107, slice p108 k109 k110, int i64 n111]) ∧
 Ca Try.prog (40 : Nat) #[pointer p61, agg #[int i64 (8), int i64 (0), int i64 (0), int i64 (0), int i64 (0), int i64 (0), int i64 (0), int i64 (0), string ⟨#[]⟩, string ⟨#[]⟩, int i64 (0), int i64 (0), string ⟨#[]⟩, int i64 (0), int i64 (0), int i64 (0), int i64 (0), int i64 (0), int i64 (0), int i64 (0), string ⟨#[]⟩, string ⟨#[]⟩, int i64 (0), int i64 n107, slice p108 k109 k110, int i64 n111, int i64 (0), int i64 (0), int i64 (0)], int i64 (4)] w103 fun e112 w113 =>
 ∃ p114 : Option Addr,
 ∃ k115 : Nat,
 ∃ k116 : Nat,
 (e112 = returned (slice p114 k115 k116)) ∧
 Ca Try.prog (40 : Nat) #[pointer p61, agg #[int i64 (3), int i64 (0), int i64 (0), int i64 (1), int i64 (2), int i64 (0), int i64 (0), int i64 (0), string ⟨#[]⟩, string ⟨#[]⟩, int i64 (0), int i64 (0), string ⟨#[]⟩, int i64 (0), int i64 (0), int i64 (1), int i64 (0), int i64 (0), int i64 (0), int i64 (0), string ⟨#[]⟩, string ⟨#[]⟩, int i64 (0), int i64 (0), slice none (0 : Nat) (0 : Nat), int i64 (0), int i64 (0), int i64 (0), int i64 (0)], int i64 (4)] w113 fun e117 w118 =>
 ∃ p119 : Option Addr,
 ∃ k120 : Nat,
 ∃ k121 : Nat,
 (e117 = returned (slice p119 k120 k121)) ∧
 Ca Try.prog (39 : Nat) #[pointer p61] w118 fun e122 w123 =>
 ∃ n124 : Int,
 ∃ n125 : Int,
 ∃ n126 : Int,
 ∃ s127 : ByteArray,
 ∃ n128 : Int,
 ∃ n129 : Int,
 ∃ b130 : Bool,
 (e122 = returned (tuple #[agg #[int i64 n124, int i64 n125, int i64 n126, string s127, int i64 n128, int i64 n129], bool b130])) ∧
 LetA (Obj.cells #[int i64 (0), int i64 (0), int i64 (0), string ⟨#[]⟩, int i64 (0), int i64 (0)] (80 : Nat)) w123 fun b131 w132 =>
 (WrRow w132 ⟨b131, 0, none⟩ (0 : Nat) [int i64 n124, int i64 n125, int i64 n126, string s127, int i64 n128, int i64 n129]) ∧
 LetW (setRow w132 ⟨b131, 0, none⟩ (0 : Nat) [int i64 n124, int i64 n125, int i64 n126, string s127, int i64 n128, int i64 n129]) fun w133 =>
 Ca Try.prog (69 : Nat) #[slice p104 k105 k106, int i64 (16), int i64 (7)] w133 fun e134 w135 =>
 ∃ b136 : Bool,
 (e134 = returned (bool b136)) ∧
 Br (b136)
 (Ca Try.prog (69 : Nat) #[slice p114 k115 k116, int i64 (0), int i64 (1)] w135 fun e137 w138 =>
 ∃ b139 : Bool,
 (e137 = returned (bool b139)) ∧
 Br (b139)
 (NilOk p114 fun a140 =>
 ((
 (0 : Int) ≤ (0 : Int)) ∧
 (0 : Int) < (↑k115 : Int)) ∧
 ∃ n141 : Int,
 (w138.cell? ((a140.add (1 : Nat)).add (4 : Nat)) = some (int i64 n141)) ∧
 Br (n141 == (2 : Int))
 (Ca Try.prog (69 : Nat) #[slice p119 k120 k121, int i64 (16), int i64 (7)] w138 fun e142 w143 =>
 ∃ b144 : Bool,
 (e142 = returned (bool b144)) ∧
 Br (b144)
 (Br (b130)
 (∃ n145 : Int,
 (w143.cell? ⟨b131, 0, none⟩ = some (int i64 n145)) ∧
 Br (n145 == (2 : Int))
 (∃ n146 : Int,
 (w143.cell? ⟨b131, 1, none⟩ = some (int i64 n146)) ∧
 Br (n146 == (1 : Int))
 (Ca Try.prog (42 : Nat) #[pointer p61] w143 fun e147 w148 =>
 ∃ b149 : Bool,
 (e147 = returned (bool b149)) ∧
 R (returned (bool !b149)) w148)
 (R (returned (bool false)) w143))
 (R (returned (bool false)) w143))
 (R (returned (bool false)) w143))
 (R (returned (bool false)) w143))
 (R (returned (bool false)) w138))
 (R (returned (bool false)) w138))
 (R (returned (bool false)) w135)))))))))
theorem kcalled_ok (w : World) (R : Ending → World → Prop) (h : kcalled  w R) : Ca Try.prog 37 #[] w R :=
 Ca.of_fvc (c := bodyOf Try.f37) (by kernel_rfl) Try.func37 (by kernel_rfl) [] (Eq.mp (by kernel_rfl) h)

end Go.Proofs.Ytljipmhkpnigkaa
