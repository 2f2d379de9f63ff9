/- The verification conditions of this seat's functions, printed by a program; the kernel holds each against the loaded code. -/
import Derived.Test.YtljipmhkpnigkaaProg
import Derived.KernelRfl
import Derived.Test.YtljipmhkpnigkaaV5
set_option maxRecDepth 100000
namespace Go.Proofs.Ytljipmhkpnigkaa
open Go Go.Vc Go.Proofs Go.Value Go.IntKind Go.Ending
def snew (w : World) (R : Ending → World → Prop) : Prop :=
 LetA (Obj.cells #[bool true, int u32 (0 : Int), int i32 (0 : Int), int u32 (0 : Int), bool false, int i64 (0), int i64 (0), int i64 (0), string ⟨#[]⟩, int i64 (0), int i64 (0)] (146 : Nat)) w fun b1 w2 =>
 R (returned (pointer (some ⟨b1, 0, none⟩))) w2
theorem snew_ok (w : World) (R : Ending → World → Prop) (h : snew  w R) : Ca Try.prog 72 #[] w R :=
 Ca.of_fvc (c := bodyOf Try.f72) (by kernel_rfl) Try.func72 (by kernel_rfl) [] (Eq.mp (by kernel_rfl) h)

def sset (b1 : Nat) (n2 : Int) (n3 : Int) (n4 : Int) (s5 : ByteArray) (n6 : Int) (n7 : Int) (w : World) (R : Ending → World → Prop) : Prop :=
 LetA (Obj.cells #[pointer (some ⟨b1, 0, none⟩)] (86 : Nat)) w fun b8 w9 =>
 LetA (Obj.cells #[int i64 n2, int i64 n3, int i64 n4, string s5, int i64 n6, int i64 n7] (80 : Nat)) w9 fun b10 w11 =>
 ∃ p12 : Option Addr,
 (w11.cell? ⟨b8, 0, none⟩ = some (pointer p12)) ∧
 Br (p12.isNone)
 (R (returned (bool false)) w11)
 (∃ p13 : Option Addr,
 (w11.cell? ⟨b8, 0, none⟩ = some (pointer p13)) ∧
 NilOk p13 fun a14 =>
 ∃ b15 : Bool,
 (w11.cell? a14 = some (bool b15)) ∧
 Br (!b15)
 (R (returned (bool false)) w11)
 (∃ n16 : Int,
 (w11.cell? ⟨b10, 0, none⟩ = some (int i64 n16)) ∧
 Br (decide (n16 ≤ (0 : Int)))
 (R (returned (bool false)) w11)
 (∃ n17 : Int,
 (w11.cell? ⟨b10, 0, none⟩ = some (int i64 n17)) ∧
 Br (decide (n17 > (3 : Int)))
 (R (returned (bool false)) w11)
 (LetA (Obj.cells #[bool false] (4 : Nat)) w11 fun b18 w19 =>
 (Wr w19 ⟨b18, 0, none⟩) ∧
 LetW (w19.setCell ⟨b18, 0, none⟩ (bool false)) fun w20 =>
 ∃ p21 : Option Addr,
 (w20.cell? ⟨b8, 0, none⟩ = some (pointer p21)) ∧
 NilOk p21 fun a22 =>
 Ca Try.prog (99 : Nat) #[pointer (some (a22.add (1 : Nat))), func (Fn.func (100 : Nat)) #[] #[pointer (some ⟨b10, 0, none⟩), pointer (some ⟨b8, 0, none⟩), pointer (some ⟨b18, 0, none⟩)]] w20 fun e23 w24 =>
 (e23 = returned (tuple #[])) ∧
 ∃ b25 : Bool,
 (w24.cell? ⟨b18, 0, none⟩ = some (bool b25)) ∧
 R (returned (bool b25)) w24))))
theorem sset_ok (b1 : Nat) (n2 : Int) (n3 : Int) (n4 : Int) (s5 : ByteArray) (n6 : Int) (n7 : Int) (w : World) (R : Ending → World → Prop) (h : sset b1 n2 n3 n4 s5 n6 n7 w R) : Ca Try.prog 94 #[pointer (some ⟨b1, 0, none⟩), agg #[int i64 n2, int i64 n3, int i64 n4, string s5, int i64 n6, int i64 n7]] w R :=
 Ca.of_fvc (c := bodyOf Try.f94) (by kernel_rfl) Try.func94 (by kernel_rfl) [] (Eq.mp (by kernel_rfl) h)

def sget (b1 : Nat) (w : World) (R : Ending → World → Prop) : Prop :=
 LetA (Obj.cells #[int i64 (0), int i64 (0), int i64 (0), string ⟨#[]⟩, int i64 (0), int i64 (0)] (80 : Nat)) w fun b2 w3 =>
 ∃ b4 : Bool,
 (w3.cell? ⟨b1, 4, none⟩ = some (bool b4)) ∧
 Br (!b4)
 ((
 WrRow w3 ⟨b2, 0, none⟩ (0 : Nat) [int i64 (0), int i64 (0), int i64 (0), string ⟨#[]⟩, int i64 (0), int i64 (0)]) ∧
 LetW (setRow w3 ⟨b2, 0, none⟩ (0 : Nat) [int i64 (0), int i64 (0), int i64 (0), string ⟨#[]⟩, int i64 (0), int i64 (0)]) fun w5 =>
 ∃ n6 : Int,
 ∃ n7 : Int,
 ∃ n8 : Int,
 ∃ s9 : ByteArray,
 ∃ n10 : Int,
 ∃ n11 : Int,
 (Row w5 ⟨b2, 0, none⟩ (0 : Nat) [int i64 n6, int i64 n7, int i64 n8, string s9, int i64 n10, int i64 n11]) ∧
 R (returned (tuple #[agg #[int i64 n6, int i64 n7, int i64 n8, string s9, int i64 n10, int i64 n11], bool false])) w5)
 (∃ n12 : Int,
 ∃ n13 : Int,
 ∃ n14 : Int,
 ∃ s15 : ByteArray,
 ∃ n16 : Int,
 ∃ n17 : Int,
 (Row w3 ⟨b1, 5, none⟩ (0 : Nat) [int i64 n12, int i64 n13, int i64 n14, string s15, int i64 n16, int i64 n17]) ∧
 (WrRow w3 ⟨b2, 0, none⟩ (0 : Nat) [int i64 n12, int i64 n13, int i64 n14, string s15, int i64 n16, int i64 n17]) ∧
 LetW (setRow w3 ⟨b2, 0, none⟩ (0 : Nat) [int i64 n12, int i64 n13, int i64 n14, string s15, int i64 n16, int i64 n17]) fun w18 =>
 ∃ n19 : Int,
 ∃ n20 : Int,
 ∃ n21 : Int,
 ∃ s22 : ByteArray,
 ∃ n23 : Int,
 ∃ n24 : Int,
 (Row w18 ⟨b2, 0, none⟩ (0 : Nat) [int i64 n19, int i64 n20, int i64 n21, string s22, int i64 n23, int i64 n24]) ∧
 R (returned (tuple #[agg #[int i64 n19, int i64 n20, int i64 n21, string s22, int i64 n23, int i64 n24], bool true])) w18)
theorem sget_ok (b1 : Nat) (w : World) (R : Ending → World → Prop) (h : sget b1 w R) : Ca Try.prog 76 #[pointer (some ⟨b1, 0, none⟩)] w R :=
 Ca.of_fvc (c := bodyOf Try.f76) (by kernel_rfl) Try.func76 (by kernel_rfl) [] (Eq.mp (by kernel_rfl) h)

def sin (b1 : Nat) (b2 : Nat) (b3 : Nat) (w : World) (R : Ending → World → Prop) : Prop :=
 ∃ p4 : Option Addr,
 (w.cell? ⟨b2, 0, none⟩ = some (pointer p4)) ∧
 ∃ p5 : Option Addr,
 (w.cell? ⟨b2, 0, none⟩ = some (pointer p5)) ∧
 ∃ n6 : Int,
 ∃ n7 : Int,
 ∃ n8 : Int,
 ∃ s9 : ByteArray,
 ∃ n10 : Int,
 ∃ n11 : Int,
 (Row w ⟨b1, 0, none⟩ (0 : Nat) [int i64 n6, int i64 n7, int i64 n8, string s9, int i64 n10, int i64 n11]) ∧
 NilOk p4 fun a12 =>
 (WrRow w (a12.add (5 : Nat)) (0 : Nat) [int i64 n6, int i64 n7, int i64 n8, string s9, int i64 n10, int i64 n11]) ∧
 LetW (setRow w (a12.add (5 : Nat)) (0 : Nat) [int i64 n6, int i64 n7, int i64 n8, string s9, int i64 n10, int i64 n11]) fun w13 =>
 (w13.cell? ⟨b2, 0, none⟩ = some (pointer p5)) ∧
 NilOk p5 fun a14 =>
 (Wr w13 (a14.add (4 : Nat))) ∧
 LetW (w13.setCell (a14.add (4 : Nat)) (bool true)) fun w15 =>
 (Wr w15 ⟨b3, 0, none⟩) ∧
 LetW (w15.setCell ⟨b3, 0, none⟩ (bool true)) fun w16 =>
 R (returned (tuple #[])) w16
theorem sin_ok (b1 : Nat) (b2 : Nat) (b3 : Nat) (w : World) (R : Ending → World → Prop) (h : sin b1 b2 b3 w R) : Ca Try.prog 100 #[pointer (some ⟨b1, 0, none⟩), pointer (some ⟨b2, 0, none⟩), pointer (some ⟨b3, 0, none⟩)] w R :=
 Ca.of_fvc (c := bodyOf Try.f100) (by kernel_rfl) Try.func100 (by kernel_rfl) [] (Eq.mp (by kernel_rfl) h)

end Go.Proofs.Ytljipmhkpnigkaa
