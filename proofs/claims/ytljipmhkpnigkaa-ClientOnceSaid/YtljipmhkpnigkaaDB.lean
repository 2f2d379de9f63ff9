/- The verification conditions of this seat's functions, printed by a program; the kernel holds each against the loaded code. -/
import Derived.Test.YtljipmhkpnigkaaProg
import Derived.KernelRfl
import Derived.Test.YtljipmhkpnigkaaV5
set_option maxRecDepth 100000
namespace Go.Proofs.Ytljipmhkpnigkaa
open Go Go.Vc Go.Proofs Go.Value Go.IntKind Go.Ending
def bnew (n1 : Int) (n2 : Int) (w : World) (R : Ending → World → Prop) : Prop :=
 Br (decide (n1 < (0 : Int)))
 (R (returned (tuple #[pointer none, int i64 (2)])) w)
 (Br (decide (n1 > (16 : Int)))
 (R (returned (tuple #[pointer none, int i64 (2)])) w)
 (Br (decide (n2 < (1 : Int)))
 (R (returned (tuple #[pointer none, int i64 (2)])) w)
 (Br (decide (n2 > (1099511627776 : Int)))
 (R (returned (tuple #[pointer none, int i64 (2)])) w)
 (LetA (Obj.cells #[int i64 n1, int i64 n2, int i64 n1, int i64 (0), int i64 (0)] (151 : Nat)) w fun b3 w4 =>
 R (returned (tuple #[pointer (some ⟨b3, 0, none⟩), int i64 (0)])) w4))))
theorem bnew_ok (n1 : Int) (n2 : Int) (w : World) (R : Ending → World → Prop) (h : bnew n1 n2 w R) : Ca Try.prog 82 #[int i64 n1, int i64 n2] w R :=
 Ca.of_fvc (c := bodyOf Try.f82) (by kernel_rfl) Try.func82 (by kernel_rfl) [] (Eq.mp (by kernel_rfl) h)

def bnone (p1 : Option Addr) (w : World) (R : Ending → World → Prop) : Prop :=
 Br (p1.isNone)
 (R (returned (bool true)) w)
 (NilOk p1 fun a2 =>
 ∃ n3 : Int,
 (w.cell? (a2.add (1 : Nat)) = some (int i64 n3)) ∧
 R (returned (bool (n3 == (0 : Int)))) w)
theorem bnone_ok (p1 : Option Addr) (w : World) (R : Ending → World → Prop) (h : bnone p1 w R) : Ca Try.prog 105 #[pointer p1] w R :=
 Ca.of_fvc (c := bodyOf Try.f105) (by kernel_rfl) Try.func105 (by kernel_rfl) [] (Eq.mp (by kernel_rfl) h)

def bat (b1 : Nat) (n2 : Int) (w : World) (R : Ending → World → Prop) : Prop :=
 ∃ n3 : Int,
 (w.cell? ⟨b1, 4, none⟩ = some (int i64 n3)) ∧
 LetI (min n2 (1099511627776 : Int)) fun n4 =>
 LetI (max n3 n4) fun n5 =>
 (Wr w ⟨b1, 4, none⟩) ∧
 LetW (w.setCell ⟨b1, 4, none⟩ (int i64 n5)) fun w6 =>
 ∃ n7 : Int,
 (w6.cell? ⟨b1, 4, none⟩ = some (int i64 n7)) ∧
 ∃ n8 : Int,
 (w6.cell? ⟨b1, 3, none⟩ = some (int i64 n8)) ∧
 LetI (i64.wrap (n7 - n8)) fun n9 =>
 ∃ n10 : Int,
 (w6.cell? ⟨b1, 1, none⟩ = some (int i64 n10)) ∧
 (n10 ≠ (0 : Int)) ∧
 LetI (i64.wrap (n9.tdiv n10)) fun n11 =>
 ∃ n12 : Int,
 (w6.cell? ⟨b1, 2, none⟩ = some (int i64 n12)) ∧
 LetI (i64.wrap (n12 + n11)) fun n13 =>
 ∃ n14 : Int,
 (w6.cell? ⟨b1, 0, none⟩ = some (int i64 n14)) ∧
 Br (decide (n13 ≥ n14))
 (∃ n15 : Int,
 (w6.cell? ⟨b1, 0, none⟩ = some (int i64 n15)) ∧
 ∃ n16 : Int,
 (w6.cell? ⟨b1, 4, none⟩ = some (int i64 n16)) ∧
 (Wr w6 ⟨b1, 2, none⟩) ∧
 LetW (w6.setCell ⟨b1, 2, none⟩ (int i64 n15)) fun w17 =>
 (Wr w17 ⟨b1, 3, none⟩) ∧
 LetW (w17.setCell ⟨b1, 3, none⟩ (int i64 n16)) fun w18 =>
 R (returned (tuple #[])) w18)
 (∃ n19 : Int,
 (w6.cell? ⟨b1, 2, none⟩ = some (int i64 n19)) ∧
 LetI (i64.wrap (n19 + n11)) fun n20 =>
 (Wr w6 ⟨b1, 2, none⟩) ∧
 LetW (w6.setCell ⟨b1, 2, none⟩ (int i64 n20)) fun w21 =>
 ∃ n22 : Int,
 (w21.cell? ⟨b1, 3, none⟩ = some (int i64 n22)) ∧
 ∃ n23 : Int,
 (w21.cell? ⟨b1, 1, none⟩ = some (int i64 n23)) ∧
 LetI (i64.wrap (n11 * n23)) fun n24 =>
 LetI (i64.wrap (n22 + n24)) fun n25 =>
 (Wr w21 ⟨b1, 3, none⟩) ∧
 LetW (w21.setCell ⟨b1, 3, none⟩ (int i64 n25)) fun w26 =>
 R (returned (tuple #[])) w26)
theorem bat_ok (b1 : Nat) (n2 : Int) (w : World) (R : Ending → World → Prop) (h : bat b1 n2 w R) : Ca Try.prog 106 #[pointer (some ⟨b1, 0, none⟩), int i64 n2] w R :=
 Ca.of_fvc (c := bodyOf Try.f106) (by kernel_rfl) Try.func106 (by kernel_rfl) [] (Eq.mp (by kernel_rfl) h)

def btake (p1 : Option Addr) (n2 : Int) (w : World) (R : Ending → World → Prop) : Prop :=
 Ca Try.prog (101 : Nat) #[pointer p1, int i64 n2] w fun e3 w4 =>
 ∃ n5 : Int,
 (e3 = returned (int i64 n5)) ∧
 Br (n5 == (0 : Int))
 (R (returned (bool false)) w4)
 (NilOk p1 fun a6 =>
 ∃ n7 : Int,
 (w4.cell? (a6.add (2 : Nat)) = some (int i64 n7)) ∧
 LetI (i64.wrap (n7 - (1 : Int))) fun n8 =>
 NilOk p1 fun a9 =>
 (Wr w4 (a9.add (2 : Nat))) ∧
 LetW (w4.setCell (a9.add (2 : Nat)) (int i64 n8)) fun w10 =>
 R (returned (bool true)) w10)
theorem btake_ok (p1 : Option Addr) (n2 : Int) (w : World) (R : Ending → World → Prop) (h : btake p1 n2 w R) : Ca Try.prog 95 #[pointer p1, int i64 n2] w R :=
 Ca.of_fvc (c := bodyOf Try.f95) (by kernel_rfl) Try.func95 (by kernel_rfl) [] (Eq.mp (by kernel_rfl) h)

def bleft (p1 : Option Addr) (n2 : Int) (w : World) (R : Ending → World → Prop) : Prop :=
 Ca Try.prog (105 : Nat) #[pointer p1] w fun e3 w4 =>
 ∃ b5 : Bool,
 (e3 = returned (bool b5)) ∧
 Br (b5)
 (R (returned (int i64 (0))) w4)
 (Ca Try.prog (106 : Nat) #[pointer p1, int i64 n2] w4 fun e6 w7 =>
 (e6 = returned (tuple #[])) ∧
 NilOk p1 fun a8 =>
 ∃ n9 : Int,
 (w7.cell? (a8.add (2 : Nat)) = some (int i64 n9)) ∧
 R (returned (int i64 n9)) w7)
theorem bleft_ok (p1 : Option Addr) (n2 : Int) (w : World) (R : Ending → World → Prop) (h : bleft p1 n2 w R) : Ca Try.prog 101 #[pointer p1, int i64 n2] w R :=
 Ca.of_fvc (c := bodyOf Try.f101) (by kernel_rfl) Try.func101 (by kernel_rfl) [] (Eq.mp (by kernel_rfl) h)

def btop (n1 : Int) (w : World) (R : Ending → World → Prop) : Prop :=
 LetI (min n1 (64 : Int)) fun n2 =>
 LetI (max (0 : Int) n2) fun n3 =>
 R (returned (int i64 n3)) w
theorem btop_ok (n1 : Int) (w : World) (R : Ending → World → Prop) (h : btop n1 w R) : Ca Try.prog 102 #[int i64 n1] w R :=
 Ca.of_fvc (c := bodyOf Try.f102) (by kernel_rfl) Try.func102 (by kernel_rfl) [] (Eq.mp (by kernel_rfl) h)

def bgap (n1 : Int) (n2 : Int) (w : World) (R : Ending → World → Prop) : Prop :=
 Br (decide (n1 < (1 : Int)))
 (R (returned (int i64 (0))) w)
 (LetI (i64.wrap (n1 - (1 : Int))) fun n3 =>
 LetI (min n3 (16 : Int)) fun n4 =>
 ((0 : Int) ≤ n4) ∧
 LetI (i64.wrap ((1 : Int) * (2 : Int) ^ min n4.toNat (64 : Nat))) fun n5 =>
 Ca Try.prog (102 : Nat) #[int i64 n2] w fun e6 w7 =>
 ∃ n8 : Int,
 (e6 = returned (int i64 n8)) ∧
 LetI (min n5 n8) fun n9 =>
 R (returned (int i64 n9)) w7)
theorem bgap_ok (n1 : Int) (n2 : Int) (w : World) (R : Ending → World → Prop) (h : bgap n1 n2 w R) : Ca Try.prog 96 #[int i64 n1, int i64 n2] w R :=
 Ca.of_fvc (c := bodyOf Try.f96) (by kernel_rfl) Try.func96 (by kernel_rfl) [] (Eq.mp (by kernel_rfl) h)

def rbnew (n1 : Int) (n2 : Int) (w : World) (R : Ending → World → Prop) : Prop :=
 Br (decide (n1 < (0 : Int)))
 (R (returned (tuple #[pointer none, int i64 (2)])) w)
 (Br (decide (n1 > (16 : Int)))
 (R (returned (tuple #[pointer none, int i64 (2)])) w)
 (Br (decide (n2 < (1 : Int)))
 (R (returned (tuple #[pointer none, int i64 (2)])) w)
 (Br (decide (n2 > (1099511627776 : Int)))
 (R (returned (tuple #[pointer none, int i64 (2)])) w)
 (LetA (Obj.cells #[int i64 n1, int i64 n2, int i64 n1, int i64 (0), int i64 (0)] (153 : Nat)) w fun b3 w4 =>
 R (returned (tuple #[pointer (some ⟨b3, 0, none⟩), int i64 (0)])) w4))))
theorem rbnew_ok (n1 : Int) (n2 : Int) (w : World) (R : Ending → World → Prop) (h : rbnew n1 n2 w R) : Ca Try.prog 83 #[int i64 n1, int i64 n2] w R :=
 Ca.of_fvc (c := bodyOf Try.f83) (by kernel_rfl) Try.func83 (by kernel_rfl) [] (Eq.mp (by kernel_rfl) h)

def valued_ (n1 : Int) (w : World) (R : Ending → World → Prop) : Prop :=
 Br (n1 == (2 : Int))
 (R (returned (bool true)) w)
 (R (returned (bool (n1 == (4 : Int)))) w)
theorem valued__ok (n1 : Int) (w : World) (R : Ending → World → Prop) (h : valued_ n1 w R) : Ca Try.prog 91 #[int i64 n1] w R :=
 Ca.of_fvc (c := bodyOf Try.f91) (by kernel_rfl) Try.func91 (by kernel_rfl) [] (Eq.mp (by kernel_rfl) h)

def ocheck (n1 : Int) (s2 : ByteArray) (s3 : ByteArray) (n4 : Int) (w : World) (R : Ending → World → Prop) : Prop :=
 LetA (Obj.cells #[int i64 n1, string s2, string s3, int i64 n4] (47 : Nat)) w fun b5 w6 =>
 ∃ n7 : Int,
 (w6.cell? ⟨b5, 0, none⟩ = some (int i64 n7)) ∧
 Br (decide (n7 < (1 : Int)))
 (R (returned (int i64 (2))) w6)
 (∃ n8 : Int,
 (w6.cell? ⟨b5, 0, none⟩ = some (int i64 n8)) ∧
 Br (decide (n8 > (4 : Int)))
 (Br (decide (n8 > (4 : Int)))
 (R (returned (int i64 (2))) w6)
 (∃ s9 : ByteArray,
 (w6.cell? ⟨b5, 1, none⟩ = some (string s9)) ∧
 Br (decide ((↑s9.size : Int) > (16 : Int)))
 (Br (decide ((↑s9.size : Int) > (16 : Int)))
 (R (returned (int i64 (3))) w6)
 (R (returned (int i64 (0))) w6))
 (∃ s10 : ByteArray,
 (w6.cell? ⟨b5, 2, none⟩ = some (string s10)) ∧
 Br (decide ((↑s10.size : Int) > (64 : Int)))
 (R (returned (int i64 (3))) w6)
 (R (returned (int i64 (0))) w6))))
 (∃ s11 : ByteArray,
 (w6.cell? ⟨b5, 1, none⟩ = some (string s11)) ∧
 Br (s11.toList == [])
 (Br (s11.toList == [])
 (R (returned (int i64 (2))) w6)
 (∃ s12 : ByteArray,
 (w6.cell? ⟨b5, 1, none⟩ = some (string s12)) ∧
 Br (decide ((↑s12.size : Int) > (16 : Int)))
 (Br (decide ((↑s12.size : Int) > (16 : Int)))
 (R (returned (int i64 (3))) w6)
 (R (returned (int i64 (0))) w6))
 (∃ s13 : ByteArray,
 (w6.cell? ⟨b5, 2, none⟩ = some (string s13)) ∧
 Br (decide ((↑s13.size : Int) > (64 : Int)))
 (R (returned (int i64 (3))) w6)
 (R (returned (int i64 (0))) w6))))
 (∃ n14 : Int,
 (w6.cell? ⟨b5, 3, none⟩ = some (int i64 n14)) ∧
 Br (decide (n14 < (0 : Int)))
 (R (returned (int i64 (2))) w6)
 (∃ n15 : Int,
 (w6.cell? ⟨b5, 3, none⟩ = some (int i64 n15)) ∧
 Br (decide (n15 > (4096 : Int)))
 (Br (decide (n15 > (4096 : Int)))
 (R (returned (int i64 (2))) w6)
 (∃ s16 : ByteArray,
 (w6.cell? ⟨b5, 1, none⟩ = some (string s16)) ∧
 Br (decide ((↑s16.size : Int) > (16 : Int)))
 (Br (decide ((↑s16.size : Int) > (16 : Int)))
 (R (returned (int i64 (3))) w6)
 (R (returned (int i64 (0))) w6))
 (∃ s17 : ByteArray,
 (w6.cell? ⟨b5, 2, none⟩ = some (string s17)) ∧
 Br (decide ((↑s17.size : Int) > (64 : Int)))
 (R (returned (int i64 (3))) w6)
 (R (returned (int i64 (0))) w6))))
 (∃ n18 : Int,
 (w6.cell? ⟨b5, 3, none⟩ = some (int i64 n18)) ∧
 Br (n18 != (0 : Int))
 (∃ n19 : Int,
 (w6.cell? ⟨b5, 0, none⟩ = some (int i64 n19)) ∧
 Br (n19 != (4 : Int))
 (Br (n19 != (4 : Int))
 (R (returned (int i64 (2))) w6)
 (∃ s20 : ByteArray,
 (w6.cell? ⟨b5, 1, none⟩ = some (string s20)) ∧
 Br (decide ((↑s20.size : Int) > (16 : Int)))
 (Br (decide ((↑s20.size : Int) > (16 : Int)))
 (R (returned (int i64 (3))) w6)
 (R (returned (int i64 (0))) w6))
 (∃ s21 : ByteArray,
 (w6.cell? ⟨b5, 2, none⟩ = some (string s21)) ∧
 Br (decide ((↑s21.size : Int) > (64 : Int)))
 (R (returned (int i64 (3))) w6)
 (R (returned (int i64 (0))) w6))))
 (∃ s22 : ByteArray,
 (w6.cell? ⟨b5, 2, none⟩ = some (string s22)) ∧
 Br (!s22.toList == [])
 (∃ n23 : Int,
 (w6.cell? ⟨b5, 0, none⟩ = some (int i64 n23)) ∧
 Ca Try.prog (91 : Nat) #[int i64 n23] w6 fun e24 w25 =>
 ∃ b26 : Bool,
 (e24 = returned (bool b26)) ∧
 Br (!b26)
 (R (returned (int i64 (2))) w25)
 (∃ s27 : ByteArray,
 (w25.cell? ⟨b5, 1, none⟩ = some (string s27)) ∧
 Br (decide ((↑s27.size : Int) > (16 : Int)))
 (Br (decide ((↑s27.size : Int) > (16 : Int)))
 (R (returned (int i64 (3))) w25)
 (R (returned (int i64 (0))) w25))
 (∃ s28 : ByteArray,
 (w25.cell? ⟨b5, 2, none⟩ = some (string s28)) ∧
 Br (decide ((↑s28.size : Int) > (64 : Int)))
 (R (returned (int i64 (3))) w25)
 (R (returned (int i64 (0))) w25))))
 (∃ s29 : ByteArray,
 (w6.cell? ⟨b5, 1, none⟩ = some (string s29)) ∧
 Br (decide ((↑s29.size : Int) > (16 : Int)))
 (Br (decide ((↑s29.size : Int) > (16 : Int)))
 (R (returned (int i64 (3))) w6)
 (R (returned (int i64 (0))) w6))
 (∃ s30 : ByteArray,
 (w6.cell? ⟨b5, 2, none⟩ = some (string s30)) ∧
 Br (decide ((↑s30.size : Int) > (64 : Int)))
 (R (returned (int i64 (3))) w6)
 (R (returned (int i64 (0))) w6)))))
 (∃ s31 : ByteArray,
 (w6.cell? ⟨b5, 2, none⟩ = some (string s31)) ∧
 Br (!s31.toList == [])
 (∃ n32 : Int,
 (w6.cell? ⟨b5, 0, none⟩ = some (int i64 n32)) ∧
 Ca Try.prog (91 : Nat) #[int i64 n32] w6 fun e33 w34 =>
 ∃ b35 : Bool,
 (e33 = returned (bool b35)) ∧
 Br (!b35)
 (R (returned (int i64 (2))) w34)
 (∃ s36 : ByteArray,
 (w34.cell? ⟨b5, 1, none⟩ = some (string s36)) ∧
 Br (decide ((↑s36.size : Int) > (16 : Int)))
 (Br (decide ((↑s36.size : Int) > (16 : Int)))
 (R (returned (int i64 (3))) w34)
 (R (returned (int i64 (0))) w34))
 (∃ s37 : ByteArray,
 (w34.cell? ⟨b5, 2, none⟩ = some (string s37)) ∧
 Br (decide ((↑s37.size : Int) > (64 : Int)))
 (R (returned (int i64 (3))) w34)
 (R (returned (int i64 (0))) w34))))
 (∃ s38 : ByteArray,
 (w6.cell? ⟨b5, 1, none⟩ = some (string s38)) ∧
 Br (decide ((↑s38.size : Int) > (16 : Int)))
 (Br (decide ((↑s38.size : Int) > (16 : Int)))
 (R (returned (int i64 (3))) w6)
 (R (returned (int i64 (0))) w6))
 (∃ s39 : ByteArray,
 (w6.cell? ⟨b5, 2, none⟩ = some (string s39)) ∧
 Br (decide ((↑s39.size : Int) > (64 : Int)))
 (R (returned (int i64 (3))) w6)
 (R (returned (int i64 (0))) w6)))))))))
theorem ocheck_ok (n1 : Int) (s2 : ByteArray) (s3 : ByteArray) (n4 : Int) (w : World) (R : Ending → World → Prop) (h : ocheck n1 s2 s3 n4 w R) : Ca Try.prog 71 #[agg #[int i64 n1, string s2, string s3, int i64 n4]] w R :=
 Ca.of_fvc (c := bodyOf Try.f71) (by kernel_rfl) Try.func71 (by kernel_rfl) [] (Eq.mp (by kernel_rfl) h)

def oreads (n1 : Int) (s2 : ByteArray) (s3 : ByteArray) (n4 : Int) (w : World) (R : Ending → World → Prop) : Prop :=
 LetA (Obj.cells #[int i64 n1, string s2, string s3, int i64 n4] (47 : Nat)) w fun b5 w6 =>
 ∃ n7 : Int,
 (w6.cell? ⟨b5, 0, none⟩ = some (int i64 n7)) ∧
 Br (n7 == (1 : Int))
 (∃ n8 : Int,
 ∃ s9 : ByteArray,
 ∃ s10 : ByteArray,
 ∃ n11 : Int,
 (Row w6 ⟨b5, 0, none⟩ (0 : Nat) [int i64 n8, string s9, string s10, int i64 n11]) ∧
 Ca Try.prog (71 : Nat) #[agg #[int i64 n8, string s9, string s10, int i64 n11]] w6 fun e12 w13 =>
 ∃ n14 : Int,
 (e12 = returned (int i64 n14)) ∧
 R (returned (bool (n14 == (0 : Int)))) w13)
 (R (returned (bool false)) w6)
theorem oreads_ok (n1 : Int) (s2 : ByteArray) (s3 : ByteArray) (n4 : Int) (w : World) (R : Ending → World → Prop) (h : oreads n1 s2 s3 n4 w R) : Ca Try.prog 92 #[agg #[int i64 n1, string s2, string s3, int i64 n4]] w R :=
 Ca.of_fvc (c := bodyOf Try.f92) (by kernel_rfl) Try.func92 (by kernel_rfl) [] (Eq.mp (by kernel_rfl) h)

end Go.Proofs.Ytljipmhkpnigkaa
