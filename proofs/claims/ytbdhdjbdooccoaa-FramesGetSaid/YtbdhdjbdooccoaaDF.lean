/- The verification conditions of this seat's functions, printed by a program; the kernel holds each against the loaded code. -/
import Derived.Test.YtbdhdjbdooccoaaProg
import Derived.KernelRfl
import Derived.Test.YtbdhdjbdooccoaaV5
import Derived.Test.YtbdhdjbdooccoaaDR
set_option maxRecDepth 100000
namespace Go.Proofs.Ytbdhdjbdooccoaa
open Go Go.Vc Go.Proofs
def fepoch (b1 : Nat) (w : World) (R : Ending → World → Prop) : Prop :=
 R (Ending.returned (Value.pointer (some { block := b1, off := (1 : Nat) }))) w
theorem fepoch_ok (b1 : Nat) (w : World) (R : Ending → World → Prop) (h : fepoch b1 w R) : Ca Try.prog 90 #[Value.pointer (some { block := b1, off := (0 : Nat) })] w R :=
 Ca.of_fvc (c := bodyOf Try.f90) (by kernel_rfl) Try.func90 (by kernel_rfl) [] (Eq.mp (by kernel_rfl) h)

def fclient (b1 : Nat) (w : World) (R : Ending → World → Prop) : Prop :=
 R (Ending.returned (Value.pointer (some { block := b1, off := (2 : Nat) }))) w
theorem fclient_ok (b1 : Nat) (w : World) (R : Ending → World → Prop) (h : fclient b1 w R) : Ca Try.prog 91 #[Value.pointer (some { block := b1, off := (0 : Nat) })] w R :=
 Ca.of_fvc (c := bodyOf Try.f91) (by kernel_rfl) Try.func91 (by kernel_rfl) [] (Eq.mp (by kernel_rfl) h)

def fseq (b1 : Nat) (w : World) (R : Ending → World → Prop) : Prop :=
 R (Ending.returned (Value.pointer (some { block := b1, off := (3 : Nat) }))) w
theorem fseq_ok (b1 : Nat) (w : World) (R : Ending → World → Prop) (h : fseq b1 w R) : Ca Try.prog 92 #[Value.pointer (some { block := b1, off := (0 : Nat) })] w R :=
 Ca.of_fvc (c := bodyOf Try.f92) (by kernel_rfl) Try.func92 (by kernel_rfl) [] (Eq.mp (by kernel_rfl) h)

def ftry (b1 : Nat) (w : World) (R : Ending → World → Prop) : Prop :=
 R (Ending.returned (Value.pointer (some { block := b1, off := (4 : Nat) }))) w
theorem ftry_ok (b1 : Nat) (w : World) (R : Ending → World → Prop) (h : ftry b1 w R) : Ca Try.prog 93 #[Value.pointer (some { block := b1, off := (0 : Nat) })] w R :=
 Ca.of_fvc (c := bodyOf Try.f93) (by kernel_rfl) Try.func93 (by kernel_rfl) [] (Eq.mp (by kernel_rfl) h)

def fclass (b1 : Nat) (w : World) (R : Ending → World → Prop) : Prop :=
 R (Ending.returned (Value.pointer (some { block := b1, off := (5 : Nat) }))) w
theorem fclass_ok (b1 : Nat) (w : World) (R : Ending → World → Prop) (h : fclass b1 w R) : Ca Try.prog 94 #[Value.pointer (some { block := b1, off := (0 : Nat) })] w R :=
 Ca.of_fvc (c := bodyOf Try.f94) (by kernel_rfl) Try.func94 (by kernel_rfl) [] (Eq.mp (by kernel_rfl) h)

def fdeadline (b1 : Nat) (w : World) (R : Ending → World → Prop) : Prop :=
 R (Ending.returned (Value.pointer (some { block := b1, off := (6 : Nat) }))) w
theorem fdeadline_ok (b1 : Nat) (w : World) (R : Ending → World → Prop) (h : fdeadline b1 w R) : Ca Try.prog 95 #[Value.pointer (some { block := b1, off := (0 : Nat) })] w R :=
 Ca.of_fvc (c := bodyOf Try.f95) (by kernel_rfl) Try.func95 (by kernel_rfl) [] (Eq.mp (by kernel_rfl) h)

def freason (b1 : Nat) (w : World) (R : Ending → World → Prop) : Prop :=
 R (Ending.returned (Value.pointer (some { block := b1, off := (15 : Nat) }))) w
theorem freason_ok (b1 : Nat) (w : World) (R : Ending → World → Prop) (h : freason b1 w R) : Ca Try.prog 96 #[Value.pointer (some { block := b1, off := (0 : Nat) })] w R :=
 Ca.of_fvc (c := bodyOf Try.f96) (by kernel_rfl) Try.func96 (by kernel_rfl) [] (Eq.mp (by kernel_rfl) h)

def findex (b1 : Nat) (w : World) (R : Ending → World → Prop) : Prop :=
 R (Ending.returned (Value.pointer (some { block := b1, off := (26 : Nat) }))) w
theorem findex_ok (b1 : Nat) (w : World) (R : Ending → World → Prop) (h : findex b1 w R) : Ca Try.prog 97 #[Value.pointer (some { block := b1, off := (0 : Nat) })] w R :=
 Ca.of_fvc (c := bodyOf Try.f97) (by kernel_rfl) Try.func97 (by kernel_rfl) [] (Eq.mp (by kernel_rfl) h)

def fgrant (b1 : Nat) (w : World) (R : Ending → World → Prop) : Prop :=
 R (Ending.returned (Value.pointer (some { block := b1, off := (27 : Nat) }))) w
theorem fgrant_ok (b1 : Nat) (w : World) (R : Ending → World → Prop) (h : fgrant b1 w R) : Ca Try.prog 98 #[Value.pointer (some { block := b1, off := (0 : Nat) })] w R :=
 Ca.of_fvc (c := bodyOf Try.f98) (by kernel_rfl) Try.func98 (by kernel_rfl) [] (Eq.mp (by kernel_rfl) h)

def fhave (b1 : Nat) (w : World) (R : Ending → World → Prop) : Prop :=
 R (Ending.returned (Value.pointer (some { block := b1, off := (28 : Nat) }))) w
theorem fhave_ok (b1 : Nat) (w : World) (R : Ending → World → Prop) (h : fhave b1 w R) : Ca Try.prog 99 #[Value.pointer (some { block := b1, off := (0 : Nat) })] w R :=
 Ca.of_fvc (c := bodyOf Try.f99) (by kernel_rfl) Try.func99 (by kernel_rfl) [] (Eq.mp (by kernel_rfl) h)

def fnumbers (n1 : Int) (w : World) (R : Ending → World → Prop) : Prop :=
 Br (n1 == (1 : Int))
 (
 LetA (Obj.cells #[Value.func (Fn.func (90 : Nat)) #[] #[], Value.func (Fn.func (91 : Nat)) #[] #[], Value.func (Fn.func (92 : Nat)) #[] #[], Value.func (Fn.func (93 : Nat)) #[] #[], Value.func (Fn.func (94 : Nat)) #[] #[], Value.func (Fn.func (95 : Nat)) #[] #[]] (91 : Nat)) w fun b2 w3 =>
 R (Ending.returned (Value.slice (some { block := b2, off := (0 : Nat) }) (6 : Nat) (6 : Nat))) w3)
 (
 Br (n1 == (2 : Int))
 (
 LetA (Obj.cells #[Value.func (Fn.func (91 : Nat)) #[] #[], Value.func (Fn.func (92 : Nat)) #[] #[], Value.func (Fn.func (93 : Nat)) #[] #[]] (91 : Nat)) w fun b4 w5 =>
 R (Ending.returned (Value.slice (some { block := b4, off := (0 : Nat) }) (3 : Nat) (3 : Nat))) w5)
 (
 Br (n1 == (3 : Int))
 (
 LetA (Obj.cells #[Value.func (Fn.func (90 : Nat)) #[] #[], Value.func (Fn.func (91 : Nat)) #[] #[], Value.func (Fn.func (92 : Nat)) #[] #[], Value.func (Fn.func (93 : Nat)) #[] #[], Value.func (Fn.func (96 : Nat)) #[] #[]] (91 : Nat)) w fun b6 w7 =>
 R (Ending.returned (Value.slice (some { block := b6, off := (0 : Nat) }) (5 : Nat) (5 : Nat))) w7)
 (
 Br (n1 == (4 : Int))
 (
 Br (n1 == (4 : Int))
 (
 LetA (Obj.cells #[Value.func (Fn.func (90 : Nat)) #[] #[]] (91 : Nat)) w fun b8 w9 =>
 R (Ending.returned (Value.slice (some { block := b8, off := (0 : Nat) }) (1 : Nat) (1 : Nat))) w9)
 (
 Br (n1 == (5 : Int))
 (
 LetA (Obj.cells #[Value.func (Fn.func (90 : Nat)) #[] #[], Value.func (Fn.func (97 : Nat)) #[] #[], Value.func (Fn.func (98 : Nat)) #[] #[], Value.func (Fn.func (99 : Nat)) #[] #[]] (91 : Nat)) w fun b10 w11 =>
 R (Ending.returned (Value.slice (some { block := b10, off := (0 : Nat) }) (4 : Nat) (4 : Nat))) w11)
 (
 Br (n1 == (6 : Int))
 (
 Br (n1 == (6 : Int))
 (
 LetA (Obj.cells #[Value.func (Fn.func (90 : Nat)) #[] #[], Value.func (Fn.func (97 : Nat)) #[] #[]] (91 : Nat)) w fun b12 w13 =>
 R (Ending.returned (Value.slice (some { block := b12, off := (0 : Nat) }) (2 : Nat) (2 : Nat))) w13)
 (
 R (Ending.returned (Value.slice none (0 : Nat) (0 : Nat))) w))
 (
 Br (n1 == (9 : Int))
 (
 Br (n1 == (9 : Int))
 (
 LetA (Obj.cells #[Value.func (Fn.func (90 : Nat)) #[] #[], Value.func (Fn.func (97 : Nat)) #[] #[]] (91 : Nat)) w fun b14 w15 =>
 R (Ending.returned (Value.slice (some { block := b14, off := (0 : Nat) }) (2 : Nat) (2 : Nat))) w15)
 (
 R (Ending.returned (Value.slice none (0 : Nat) (0 : Nat))) w))
 (
 Br (n1 == (10 : Int))
 (
 Br (n1 == (10 : Int))
 (
 LetA (Obj.cells #[Value.func (Fn.func (90 : Nat)) #[] #[], Value.func (Fn.func (97 : Nat)) #[] #[]] (91 : Nat)) w fun b16 w17 =>
 R (Ending.returned (Value.slice (some { block := b16, off := (0 : Nat) }) (2 : Nat) (2 : Nat))) w17)
 (
 R (Ending.returned (Value.slice none (0 : Nat) (0 : Nat))) w))
 (
 Br (n1 == (11 : Int))
 (
 LetA (Obj.cells #[Value.func (Fn.func (90 : Nat)) #[] #[], Value.func (Fn.func (97 : Nat)) #[] #[]] (91 : Nat)) w fun b18 w19 =>
 R (Ending.returned (Value.slice (some { block := b18, off := (0 : Nat) }) (2 : Nat) (2 : Nat))) w19)
 (
 R (Ending.returned (Value.slice none (0 : Nat) (0 : Nat))) w)))))))
 (
 Br (n1 == (12 : Int))
 (
 LetA (Obj.cells #[Value.func (Fn.func (90 : Nat)) #[] #[]] (91 : Nat)) w fun b20 w21 =>
 R (Ending.returned (Value.slice (some { block := b20, off := (0 : Nat) }) (1 : Nat) (1 : Nat))) w21)
 (
 Br (n1 == (5 : Int))
 (
 LetA (Obj.cells #[Value.func (Fn.func (90 : Nat)) #[] #[], Value.func (Fn.func (97 : Nat)) #[] #[], Value.func (Fn.func (98 : Nat)) #[] #[], Value.func (Fn.func (99 : Nat)) #[] #[]] (91 : Nat)) w fun b22 w23 =>
 R (Ending.returned (Value.slice (some { block := b22, off := (0 : Nat) }) (4 : Nat) (4 : Nat))) w23)
 (
 Br (n1 == (6 : Int))
 (
 Br (n1 == (6 : Int))
 (
 LetA (Obj.cells #[Value.func (Fn.func (90 : Nat)) #[] #[], Value.func (Fn.func (97 : Nat)) #[] #[]] (91 : Nat)) w fun b24 w25 =>
 R (Ending.returned (Value.slice (some { block := b24, off := (0 : Nat) }) (2 : Nat) (2 : Nat))) w25)
 (
 R (Ending.returned (Value.slice none (0 : Nat) (0 : Nat))) w))
 (
 Br (n1 == (9 : Int))
 (
 Br (n1 == (9 : Int))
 (
 LetA (Obj.cells #[Value.func (Fn.func (90 : Nat)) #[] #[], Value.func (Fn.func (97 : Nat)) #[] #[]] (91 : Nat)) w fun b26 w27 =>
 R (Ending.returned (Value.slice (some { block := b26, off := (0 : Nat) }) (2 : Nat) (2 : Nat))) w27)
 (
 R (Ending.returned (Value.slice none (0 : Nat) (0 : Nat))) w))
 (
 Br (n1 == (10 : Int))
 (
 Br (n1 == (10 : Int))
 (
 LetA (Obj.cells #[Value.func (Fn.func (90 : Nat)) #[] #[], Value.func (Fn.func (97 : Nat)) #[] #[]] (91 : Nat)) w fun b28 w29 =>
 R (Ending.returned (Value.slice (some { block := b28, off := (0 : Nat) }) (2 : Nat) (2 : Nat))) w29)
 (
 R (Ending.returned (Value.slice none (0 : Nat) (0 : Nat))) w))
 (
 Br (n1 == (11 : Int))
 (
 LetA (Obj.cells #[Value.func (Fn.func (90 : Nat)) #[] #[], Value.func (Fn.func (97 : Nat)) #[] #[]] (91 : Nat)) w fun b30 w31 =>
 R (Ending.returned (Value.slice (some { block := b30, off := (0 : Nat) }) (2 : Nat) (2 : Nat))) w31)
 (
 R (Ending.returned (Value.slice none (0 : Nat) (0 : Nat))) w))))))))))
theorem fnumbers_ok (n1 : Int) (w : World) (R : Ending → World → Prop) (h : fnumbers n1 w R) : Ca Try.prog 75 #[Value.int IntKind.i64 n1] w R :=
 Ca.of_fvc (c := bodyOf Try.f75) (by kernel_rfl) Try.func75 (by kernel_rfl) [] (Eq.mp (by kernel_rfl) h)

def fgood (n1 : Int) (w : World) (R : Ending → World → Prop) : Prop :=
 Br (decide (n1 ≥ (0 : Int)))
 (
 R (Ending.returned (Value.bool (decide (n1 ≤ (1099511627776 : Int))))) w)
 (
 R (Ending.returned (Value.bool false)) w)
theorem fgood_ok (n1 : Int) (w : World) (R : Ending → World → Prop) (h : fgood n1 w R) : Ca Try.prog 81 #[Value.int IntKind.i64 n1] w R :=
 Ca.of_fvc (c := bodyOf Try.f81) (by kernel_rfl) Try.func81 (by kernel_rfl) [] (Eq.mp (by kernel_rfl) h)

def fresult (n1 : Int) (s2 : ByteArray) (n3 : Int) (n4 : Int) (w : World) (R : Ending → World → Prop) : Prop :=
 LetA (Obj.cells #[Value.int IntKind.i64 n1, Value.string s2, Value.int IntKind.i64 n3, Value.int IntKind.i64 n4] (54 : Nat)) w fun b5 w6 =>
 ∃ n7 : Int,
 (
 w6.cell? { block := b5, off := (0 : Nat) } = some (Value.int IntKind.i64 n7)) ∧
 Br (decide (n7 ≥ (1 : Int)))
 (
 ∃ n8 : Int,
 (
 w6.cell? { block := b5, off := (0 : Nat) } = some (Value.int IntKind.i64 n8)) ∧
 Br (decide (n8 ≤ (3 : Int)))
 (
 ∃ s9 : ByteArray,
 (
 w6.cell? { block := b5, off := (1 : Nat) } = some (Value.string s9)) ∧
 Br (decide ((↑s9.size : Int) ≤ (64 : Int)))
 (
 ∃ n10 : Int,
 (
 w6.cell? { block := b5, off := (2 : Nat) } = some (Value.int IntKind.i64 n10)) ∧
 Ca Try.prog (81 : Nat) #[Value.int IntKind.i64 n10] w6 fun e11 w12 =>
 ∃ b13 : Bool,
 (
 e11 = Ending.returned (Value.bool b13)) ∧
 Br (b13)
 (
 ∃ n14 : Int,
 (
 w12.cell? { block := b5, off := (3 : Nat) } = some (Value.int IntKind.i64 n14)) ∧
 Ca Try.prog (81 : Nat) #[Value.int IntKind.i64 n14] w12 fun e15 w16 =>
 ∃ b17 : Bool,
 (
 e15 = Ending.returned (Value.bool b17)) ∧
 ∃ n18 : Int,
 (
 w16.cell? { block := b5, off := (0 : Nat) } = some (Value.int IntKind.i64 n18)) ∧
 ∃ s19 : ByteArray,
 (
 w16.cell? { block := b5, off := (1 : Nat) } = some (Value.string s19)) ∧
 ∃ n20 : Int,
 (
 w16.cell? { block := b5, off := (2 : Nat) } = some (Value.int IntKind.i64 n20)) ∧
 ∃ n21 : Int,
 (
 w16.cell? { block := b5, off := (3 : Nat) } = some (Value.int IntKind.i64 n21)) ∧
 Ca Try.prog (53 : Nat) #[Value.int IntKind.i64 n18] w16 fun e22 w23 =>
 ∃ s24 : ByteArray,
 (
 e22 = Ending.returned (Value.string s24)) ∧
 (
 w23.cell? { block := b5, off := (3 : Nat) } = some (Value.int IntKind.i64 n21)) ∧
 (
 w23.cell? { block := b5, off := (2 : Nat) } = some (Value.int IntKind.i64 n20)) ∧
 (
 w23.cell? { block := b5, off := (1 : Nat) } = some (Value.string s19)) ∧
 Ca Try.prog (54 : Nat) #[Value.string s19] w23 fun e25 w26 =>
 ∃ s27 : ByteArray,
 (
 e25 = Ending.returned (Value.string s27)) ∧
 (
 w26.cell? { block := b5, off := (3 : Nat) } = some (Value.int IntKind.i64 n21)) ∧
 (
 w26.cell? { block := b5, off := (2 : Nat) } = some (Value.int IntKind.i64 n20)) ∧
 (
 (↑(s24.size + s27.size) : Int) ≤ IntKind.i64.max) ∧
 Ca Try.prog (53 : Nat) #[Value.int IntKind.i64 n20] w26 fun e28 w29 =>
 ∃ s30 : ByteArray,
 (
 e28 = Ending.returned (Value.string s30)) ∧
 (
 w29.cell? { block := b5, off := (3 : Nat) } = some (Value.int IntKind.i64 n21)) ∧
 (
 (↑((s24 ++ s27).size + s30.size) : Int) ≤ IntKind.i64.max) ∧
 Ca Try.prog (53 : Nat) #[Value.int IntKind.i64 n21] w29 fun e31 w32 =>
 ∃ s33 : ByteArray,
 (
 e31 = Ending.returned (Value.string s33)) ∧
 (
 (↑((s24 ++ s27 ++ s30).size + s33.size) : Int) ≤ IntKind.i64.max) ∧
 R (Ending.returned (Value.tuple #[Value.string (s24 ++ s27 ++ s30 ++ s33), Value.bool b17])) w32)
 (
 ∃ n34 : Int,
 (
 w12.cell? { block := b5, off := (0 : Nat) } = some (Value.int IntKind.i64 n34)) ∧
 ∃ s35 : ByteArray,
 (
 w12.cell? { block := b5, off := (1 : Nat) } = some (Value.string s35)) ∧
 ∃ n36 : Int,
 (
 w12.cell? { block := b5, off := (2 : Nat) } = some (Value.int IntKind.i64 n36)) ∧
 ∃ n37 : Int,
 (
 w12.cell? { block := b5, off := (3 : Nat) } = some (Value.int IntKind.i64 n37)) ∧
 Ca Try.prog (53 : Nat) #[Value.int IntKind.i64 n34] w12 fun e38 w39 =>
 ∃ s40 : ByteArray,
 (
 e38 = Ending.returned (Value.string s40)) ∧
 (
 w39.cell? { block := b5, off := (3 : Nat) } = some (Value.int IntKind.i64 n37)) ∧
 (
 w39.cell? { block := b5, off := (2 : Nat) } = some (Value.int IntKind.i64 n36)) ∧
 (
 w39.cell? { block := b5, off := (1 : Nat) } = some (Value.string s35)) ∧
 Ca Try.prog (54 : Nat) #[Value.string s35] w39 fun e41 w42 =>
 ∃ s43 : ByteArray,
 (
 e41 = Ending.returned (Value.string s43)) ∧
 (
 w42.cell? { block := b5, off := (3 : Nat) } = some (Value.int IntKind.i64 n37)) ∧
 (
 w42.cell? { block := b5, off := (2 : Nat) } = some (Value.int IntKind.i64 n36)) ∧
 (
 (↑(s40.size + s43.size) : Int) ≤ IntKind.i64.max) ∧
 Ca Try.prog (53 : Nat) #[Value.int IntKind.i64 n36] w42 fun e44 w45 =>
 ∃ s46 : ByteArray,
 (
 e44 = Ending.returned (Value.string s46)) ∧
 (
 w45.cell? { block := b5, off := (3 : Nat) } = some (Value.int IntKind.i64 n37)) ∧
 (
 (↑((s40 ++ s43).size + s46.size) : Int) ≤ IntKind.i64.max) ∧
 Ca Try.prog (53 : Nat) #[Value.int IntKind.i64 n37] w45 fun e47 w48 =>
 ∃ s49 : ByteArray,
 (
 e47 = Ending.returned (Value.string s49)) ∧
 (
 (↑((s40 ++ s43 ++ s46).size + s49.size) : Int) ≤ IntKind.i64.max) ∧
 R (Ending.returned (Value.tuple #[Value.string (s40 ++ s43 ++ s46 ++ s49), Value.bool false])) w48))
 (
 ∃ n50 : Int,
 (
 w6.cell? { block := b5, off := (0 : Nat) } = some (Value.int IntKind.i64 n50)) ∧
 ∃ s51 : ByteArray,
 (
 w6.cell? { block := b5, off := (1 : Nat) } = some (Value.string s51)) ∧
 ∃ n52 : Int,
 (
 w6.cell? { block := b5, off := (2 : Nat) } = some (Value.int IntKind.i64 n52)) ∧
 ∃ n53 : Int,
 (
 w6.cell? { block := b5, off := (3 : Nat) } = some (Value.int IntKind.i64 n53)) ∧
 Ca Try.prog (53 : Nat) #[Value.int IntKind.i64 n50] w6 fun e54 w55 =>
 ∃ s56 : ByteArray,
 (
 e54 = Ending.returned (Value.string s56)) ∧
 (
 w55.cell? { block := b5, off := (3 : Nat) } = some (Value.int IntKind.i64 n53)) ∧
 (
 w55.cell? { block := b5, off := (2 : Nat) } = some (Value.int IntKind.i64 n52)) ∧
 (
 w55.cell? { block := b5, off := (1 : Nat) } = some (Value.string s51)) ∧
 Ca Try.prog (54 : Nat) #[Value.string s51] w55 fun e57 w58 =>
 ∃ s59 : ByteArray,
 (
 e57 = Ending.returned (Value.string s59)) ∧
 (
 w58.cell? { block := b5, off := (3 : Nat) } = some (Value.int IntKind.i64 n53)) ∧
 (
 w58.cell? { block := b5, off := (2 : Nat) } = some (Value.int IntKind.i64 n52)) ∧
 (
 (↑(s56.size + s59.size) : Int) ≤ IntKind.i64.max) ∧
 Ca Try.prog (53 : Nat) #[Value.int IntKind.i64 n52] w58 fun e60 w61 =>
 ∃ s62 : ByteArray,
 (
 e60 = Ending.returned (Value.string s62)) ∧
 (
 w61.cell? { block := b5, off := (3 : Nat) } = some (Value.int IntKind.i64 n53)) ∧
 (
 (↑((s56 ++ s59).size + s62.size) : Int) ≤ IntKind.i64.max) ∧
 Ca Try.prog (53 : Nat) #[Value.int IntKind.i64 n53] w61 fun e63 w64 =>
 ∃ s65 : ByteArray,
 (
 e63 = Ending.returned (Value.string s65)) ∧
 (
 (↑((s56 ++ s59 ++ s62).size + s65.size) : Int) ≤ IntKind.i64.max) ∧
 R (Ending.returned (Value.tuple #[Value.string (s56 ++ s59 ++ s62 ++ s65), Value.bool false])) w64))
 (
 ∃ n66 : Int,
 (
 w6.cell? { block := b5, off := (0 : Nat) } = some (Value.int IntKind.i64 n66)) ∧
 ∃ s67 : ByteArray,
 (
 w6.cell? { block := b5, off := (1 : Nat) } = some (Value.string s67)) ∧
 ∃ n68 : Int,
 (
 w6.cell? { block := b5, off := (2 : Nat) } = some (Value.int IntKind.i64 n68)) ∧
 ∃ n69 : Int,
 (
 w6.cell? { block := b5, off := (3 : Nat) } = some (Value.int IntKind.i64 n69)) ∧
 Ca Try.prog (53 : Nat) #[Value.int IntKind.i64 n66] w6 fun e70 w71 =>
 ∃ s72 : ByteArray,
 (
 e70 = Ending.returned (Value.string s72)) ∧
 (
 w71.cell? { block := b5, off := (3 : Nat) } = some (Value.int IntKind.i64 n69)) ∧
 (
 w71.cell? { block := b5, off := (2 : Nat) } = some (Value.int IntKind.i64 n68)) ∧
 (
 w71.cell? { block := b5, off := (1 : Nat) } = some (Value.string s67)) ∧
 Ca Try.prog (54 : Nat) #[Value.string s67] w71 fun e73 w74 =>
 ∃ s75 : ByteArray,
 (
 e73 = Ending.returned (Value.string s75)) ∧
 (
 w74.cell? { block := b5, off := (3 : Nat) } = some (Value.int IntKind.i64 n69)) ∧
 (
 w74.cell? { block := b5, off := (2 : Nat) } = some (Value.int IntKind.i64 n68)) ∧
 (
 (↑(s72.size + s75.size) : Int) ≤ IntKind.i64.max) ∧
 Ca Try.prog (53 : Nat) #[Value.int IntKind.i64 n68] w74 fun e76 w77 =>
 ∃ s78 : ByteArray,
 (
 e76 = Ending.returned (Value.string s78)) ∧
 (
 w77.cell? { block := b5, off := (3 : Nat) } = some (Value.int IntKind.i64 n69)) ∧
 (
 (↑((s72 ++ s75).size + s78.size) : Int) ≤ IntKind.i64.max) ∧
 Ca Try.prog (53 : Nat) #[Value.int IntKind.i64 n69] w77 fun e79 w80 =>
 ∃ s81 : ByteArray,
 (
 e79 = Ending.returned (Value.string s81)) ∧
 (
 (↑((s72 ++ s75 ++ s78).size + s81.size) : Int) ≤ IntKind.i64.max) ∧
 R (Ending.returned (Value.tuple #[Value.string (s72 ++ s75 ++ s78 ++ s81), Value.bool false])) w80))
 (
 ∃ n82 : Int,
 (
 w6.cell? { block := b5, off := (0 : Nat) } = some (Value.int IntKind.i64 n82)) ∧
 ∃ s83 : ByteArray,
 (
 w6.cell? { block := b5, off := (1 : Nat) } = some (Value.string s83)) ∧
 ∃ n84 : Int,
 (
 w6.cell? { block := b5, off := (2 : Nat) } = some (Value.int IntKind.i64 n84)) ∧
 ∃ n85 : Int,
 (
 w6.cell? { block := b5, off := (3 : Nat) } = some (Value.int IntKind.i64 n85)) ∧
 Ca Try.prog (53 : Nat) #[Value.int IntKind.i64 n82] w6 fun e86 w87 =>
 ∃ s88 : ByteArray,
 (
 e86 = Ending.returned (Value.string s88)) ∧
 (
 w87.cell? { block := b5, off := (3 : Nat) } = some (Value.int IntKind.i64 n85)) ∧
 (
 w87.cell? { block := b5, off := (2 : Nat) } = some (Value.int IntKind.i64 n84)) ∧
 (
 w87.cell? { block := b5, off := (1 : Nat) } = some (Value.string s83)) ∧
 Ca Try.prog (54 : Nat) #[Value.string s83] w87 fun e89 w90 =>
 ∃ s91 : ByteArray,
 (
 e89 = Ending.returned (Value.string s91)) ∧
 (
 w90.cell? { block := b5, off := (3 : Nat) } = some (Value.int IntKind.i64 n85)) ∧
 (
 w90.cell? { block := b5, off := (2 : Nat) } = some (Value.int IntKind.i64 n84)) ∧
 (
 (↑(s88.size + s91.size) : Int) ≤ IntKind.i64.max) ∧
 Ca Try.prog (53 : Nat) #[Value.int IntKind.i64 n84] w90 fun e92 w93 =>
 ∃ s94 : ByteArray,
 (
 e92 = Ending.returned (Value.string s94)) ∧
 (
 w93.cell? { block := b5, off := (3 : Nat) } = some (Value.int IntKind.i64 n85)) ∧
 (
 (↑((s88 ++ s91).size + s94.size) : Int) ≤ IntKind.i64.max) ∧
 Ca Try.prog (53 : Nat) #[Value.int IntKind.i64 n85] w93 fun e95 w96 =>
 ∃ s97 : ByteArray,
 (
 e95 = Ending.returned (Value.string s97)) ∧
 (
 (↑((s88 ++ s91 ++ s94).size + s97.size) : Int) ≤ IntKind.i64.max) ∧
 R (Ending.returned (Value.tuple #[Value.string (s88 ++ s91 ++ s94 ++ s97), Value.bool false])) w96)
theorem fresult_ok (n1 : Int) (s2 : ByteArray) (n3 : Int) (n4 : Int) (w : World) (R : Ending → World → Prop) (h : fresult n1 s2 n3 n4 w R) : Ca Try.prog 103 #[Value.agg #[Value.int IntKind.i64 n1, Value.string s2, Value.int IntKind.i64 n3, Value.int IntKind.i64 n4]] w R :=
 Ca.of_fvc (c := bodyOf Try.f103) (by kernel_rfl) Try.func103 (by kernel_rfl) [] (Eq.mp (by kernel_rfl) h)

def fentry (n1 : Int) (n2 : Int) (n3 : Int) (n4 : Int) (s5 : ByteArray) (s6 : ByteArray) (n7 : Int) (w : World) (R : Ending → World → Prop) : Prop :=
 LetA (Obj.cells #[Value.int IntKind.i64 n1, Value.int IntKind.i64 n2, Value.int IntKind.i64 n3, Value.int IntKind.i64 n4, Value.string s5, Value.string s6, Value.int IntKind.i64 n7] (56 : Nat)) w fun b8 w9 =>
 ∃ n10 : Int,
 ∃ s11 : ByteArray,
 ∃ s12 : ByteArray,
 ∃ n13 : Int,
 (
 Row w9 { block := b8, off := (3 : Nat) } (0 : Nat) [Value.int IntKind.i64 n10, Value.string s11, Value.string s12, Value.int IntKind.i64 n13]) ∧
 Ca Try.prog (16 : Nat) #[Value.agg #[Value.int IntKind.i64 n10, Value.string s11, Value.string s12, Value.int IntKind.i64 n13]] w9 fun e14 w15 =>
 ∃ s16 : ByteArray,
 ∃ n17 : Int,
 (
 e14 = Ending.returned (Value.tuple #[Value.string s16, Value.int IntKind.i64 n17])) ∧
 Br (n17 == (0 : Int))
 (
 ∃ n18 : Int,
 (
 w15.cell? { block := b8, off := (0 : Nat) } = some (Value.int IntKind.i64 n18)) ∧
 Ca Try.prog (81 : Nat) #[Value.int IntKind.i64 n18] w15 fun e19 w20 =>
 ∃ b21 : Bool,
 (
 e19 = Ending.returned (Value.bool b21)) ∧
 Br (b21)
 (
 ∃ n22 : Int,
 (
 w20.cell? { block := b8, off := (1 : Nat) } = some (Value.int IntKind.i64 n22)) ∧
 Ca Try.prog (81 : Nat) #[Value.int IntKind.i64 n22] w20 fun e23 w24 =>
 ∃ b25 : Bool,
 (
 e23 = Ending.returned (Value.bool b25)) ∧
 Br (b25)
 (
 ∃ n26 : Int,
 (
 w24.cell? { block := b8, off := (2 : Nat) } = some (Value.int IntKind.i64 n26)) ∧
 Ca Try.prog (81 : Nat) #[Value.int IntKind.i64 n26] w24 fun e27 w28 =>
 ∃ b29 : Bool,
 (
 e27 = Ending.returned (Value.bool b29)) ∧
 ∃ n30 : Int,
 (
 w28.cell? { block := b8, off := (0 : Nat) } = some (Value.int IntKind.i64 n30)) ∧
 ∃ n31 : Int,
 (
 w28.cell? { block := b8, off := (1 : Nat) } = some (Value.int IntKind.i64 n31)) ∧
 ∃ n32 : Int,
 (
 w28.cell? { block := b8, off := (2 : Nat) } = some (Value.int IntKind.i64 n32)) ∧
 Ca Try.prog (53 : Nat) #[Value.int IntKind.i64 n30] w28 fun e33 w34 =>
 ∃ s35 : ByteArray,
 (
 e33 = Ending.returned (Value.string s35)) ∧
 (
 w34.cell? { block := b8, off := (2 : Nat) } = some (Value.int IntKind.i64 n32)) ∧
 (
 w34.cell? { block := b8, off := (1 : Nat) } = some (Value.int IntKind.i64 n31)) ∧
 Ca Try.prog (53 : Nat) #[Value.int IntKind.i64 n31] w34 fun e36 w37 =>
 ∃ s38 : ByteArray,
 (
 e36 = Ending.returned (Value.string s38)) ∧
 (
 w37.cell? { block := b8, off := (2 : Nat) } = some (Value.int IntKind.i64 n32)) ∧
 (
 (↑(s35.size + s38.size) : Int) ≤ IntKind.i64.max) ∧
 Ca Try.prog (53 : Nat) #[Value.int IntKind.i64 n32] w37 fun e39 w40 =>
 ∃ s41 : ByteArray,
 (
 e39 = Ending.returned (Value.string s41)) ∧
 (
 (↑((s35 ++ s38).size + s41.size) : Int) ≤ IntKind.i64.max) ∧
 (
 (↑((s35 ++ s38 ++ s41).size + s16.size) : Int) ≤ IntKind.i64.max) ∧
 R (Ending.returned (Value.tuple #[Value.string (s35 ++ s38 ++ s41 ++ s16), Value.bool b29])) w40)
 (
 ∃ n42 : Int,
 (
 w24.cell? { block := b8, off := (0 : Nat) } = some (Value.int IntKind.i64 n42)) ∧
 ∃ n43 : Int,
 (
 w24.cell? { block := b8, off := (1 : Nat) } = some (Value.int IntKind.i64 n43)) ∧
 ∃ n44 : Int,
 (
 w24.cell? { block := b8, off := (2 : Nat) } = some (Value.int IntKind.i64 n44)) ∧
 Ca Try.prog (53 : Nat) #[Value.int IntKind.i64 n42] w24 fun e45 w46 =>
 ∃ s47 : ByteArray,
 (
 e45 = Ending.returned (Value.string s47)) ∧
 (
 w46.cell? { block := b8, off := (2 : Nat) } = some (Value.int IntKind.i64 n44)) ∧
 (
 w46.cell? { block := b8, off := (1 : Nat) } = some (Value.int IntKind.i64 n43)) ∧
 Ca Try.prog (53 : Nat) #[Value.int IntKind.i64 n43] w46 fun e48 w49 =>
 ∃ s50 : ByteArray,
 (
 e48 = Ending.returned (Value.string s50)) ∧
 (
 w49.cell? { block := b8, off := (2 : Nat) } = some (Value.int IntKind.i64 n44)) ∧
 (
 (↑(s47.size + s50.size) : Int) ≤ IntKind.i64.max) ∧
 Ca Try.prog (53 : Nat) #[Value.int IntKind.i64 n44] w49 fun e51 w52 =>
 ∃ s53 : ByteArray,
 (
 e51 = Ending.returned (Value.string s53)) ∧
 (
 (↑((s47 ++ s50).size + s53.size) : Int) ≤ IntKind.i64.max) ∧
 (
 (↑((s47 ++ s50 ++ s53).size + s16.size) : Int) ≤ IntKind.i64.max) ∧
 R (Ending.returned (Value.tuple #[Value.string (s47 ++ s50 ++ s53 ++ s16), Value.bool false])) w52))
 (
 ∃ n54 : Int,
 (
 w20.cell? { block := b8, off := (0 : Nat) } = some (Value.int IntKind.i64 n54)) ∧
 ∃ n55 : Int,
 (
 w20.cell? { block := b8, off := (1 : Nat) } = some (Value.int IntKind.i64 n55)) ∧
 ∃ n56 : Int,
 (
 w20.cell? { block := b8, off := (2 : Nat) } = some (Value.int IntKind.i64 n56)) ∧
 Ca Try.prog (53 : Nat) #[Value.int IntKind.i64 n54] w20 fun e57 w58 =>
 ∃ s59 : ByteArray,
 (
 e57 = Ending.returned (Value.string s59)) ∧
 (
 w58.cell? { block := b8, off := (2 : Nat) } = some (Value.int IntKind.i64 n56)) ∧
 (
 w58.cell? { block := b8, off := (1 : Nat) } = some (Value.int IntKind.i64 n55)) ∧
 Ca Try.prog (53 : Nat) #[Value.int IntKind.i64 n55] w58 fun e60 w61 =>
 ∃ s62 : ByteArray,
 (
 e60 = Ending.returned (Value.string s62)) ∧
 (
 w61.cell? { block := b8, off := (2 : Nat) } = some (Value.int IntKind.i64 n56)) ∧
 (
 (↑(s59.size + s62.size) : Int) ≤ IntKind.i64.max) ∧
 Ca Try.prog (53 : Nat) #[Value.int IntKind.i64 n56] w61 fun e63 w64 =>
 ∃ s65 : ByteArray,
 (
 e63 = Ending.returned (Value.string s65)) ∧
 (
 (↑((s59 ++ s62).size + s65.size) : Int) ≤ IntKind.i64.max) ∧
 (
 (↑((s59 ++ s62 ++ s65).size + s16.size) : Int) ≤ IntKind.i64.max) ∧
 R (Ending.returned (Value.tuple #[Value.string (s59 ++ s62 ++ s65 ++ s16), Value.bool false])) w64))
 (
 ∃ n66 : Int,
 (
 w15.cell? { block := b8, off := (0 : Nat) } = some (Value.int IntKind.i64 n66)) ∧
 ∃ n67 : Int,
 (
 w15.cell? { block := b8, off := (1 : Nat) } = some (Value.int IntKind.i64 n67)) ∧
 ∃ n68 : Int,
 (
 w15.cell? { block := b8, off := (2 : Nat) } = some (Value.int IntKind.i64 n68)) ∧
 Ca Try.prog (53 : Nat) #[Value.int IntKind.i64 n66] w15 fun e69 w70 =>
 ∃ s71 : ByteArray,
 (
 e69 = Ending.returned (Value.string s71)) ∧
 (
 w70.cell? { block := b8, off := (2 : Nat) } = some (Value.int IntKind.i64 n68)) ∧
 (
 w70.cell? { block := b8, off := (1 : Nat) } = some (Value.int IntKind.i64 n67)) ∧
 Ca Try.prog (53 : Nat) #[Value.int IntKind.i64 n67] w70 fun e72 w73 =>
 ∃ s74 : ByteArray,
 (
 e72 = Ending.returned (Value.string s74)) ∧
 (
 w73.cell? { block := b8, off := (2 : Nat) } = some (Value.int IntKind.i64 n68)) ∧
 (
 (↑(s71.size + s74.size) : Int) ≤ IntKind.i64.max) ∧
 Ca Try.prog (53 : Nat) #[Value.int IntKind.i64 n68] w73 fun e75 w76 =>
 ∃ s77 : ByteArray,
 (
 e75 = Ending.returned (Value.string s77)) ∧
 (
 (↑((s71 ++ s74).size + s77.size) : Int) ≤ IntKind.i64.max) ∧
 (
 (↑((s71 ++ s74 ++ s77).size + s16.size) : Int) ≤ IntKind.i64.max) ∧
 R (Ending.returned (Value.tuple #[Value.string (s71 ++ s74 ++ s77 ++ s16), Value.bool false])) w76)
theorem fentry_ok (n1 : Int) (n2 : Int) (n3 : Int) (n4 : Int) (s5 : ByteArray) (s6 : ByteArray) (n7 : Int) (w : World) (R : Ending → World → Prop) (h : fentry n1 n2 n3 n4 s5 s6 n7 w R) : Ca Try.prog 104 #[Value.agg #[Value.int IntKind.i64 n1, Value.int IntKind.i64 n2, Value.int IntKind.i64 n3, Value.int IntKind.i64 n4, Value.string s5, Value.string s6, Value.int IntKind.i64 n7]] w R :=
 Ca.of_fvc (c := bodyOf Try.f104) (by kernel_rfl) Try.func104 (by kernel_rfl) [] (Eq.mp (by kernel_rfl) h)

def frest (n1 : Int) (n2 : Int) (n3 : Int) (n4 : Int) (n5 : Int) (n6 : Int) (n7 : Int) (n8 : Int) (s9 : ByteArray) (s10 : ByteArray) (n11 : Int) (n12 : Int) (s13 : ByteArray) (n14 : Int) (n15 : Int) (n16 : Int) (n17 : Int) (n18 : Int) (n19 : Int) (n20 : Int) (s21 : ByteArray) (s22 : ByteArray) (n23 : Int) (n24 : Int) (p25 : Option Addr) (k26 : Nat) (k27 : Nat) (n28 : Int) (n29 : Int) (n30 : Int) (n31 : Int) (w : World) (R : Ending → World → Prop) : Prop :=
 LetA (Obj.cells #[Value.int IntKind.i64 n1, Value.int IntKind.i64 n2, Value.int IntKind.i64 n3, Value.int IntKind.i64 n4, Value.int IntKind.i64 n5, Value.int IntKind.i64 n6, Value.int IntKind.i64 n7, Value.int IntKind.i64 n8, Value.string s9, Value.string s10, Value.int IntKind.i64 n11, Value.int IntKind.i64 n12, Value.string s13, Value.int IntKind.i64 n14, Value.int IntKind.i64 n15, Value.int IntKind.i64 n16, Value.int IntKind.i64 n17, Value.int IntKind.i64 n18, Value.int IntKind.i64 n19, Value.int IntKind.i64 n20, Value.string s21, Value.string s22, Value.int IntKind.i64 n23, Value.int IntKind.i64 n24, Value.slice p25 k26 k27, Value.int IntKind.i64 n28, Value.int IntKind.i64 n29, Value.int IntKind.i64 n30, Value.int IntKind.i64 n31] (58 : Nat)) w fun b32 w33 =>
 ∃ n34 : Int,
 (
 w33.cell? { block := b32, off := (0 : Nat) } = some (Value.int IntKind.i64 n34)) ∧
 Br (n34 == (1 : Int))
 (
 ∃ n35 : Int,
 ∃ s36 : ByteArray,
 ∃ s37 : ByteArray,
 ∃ n38 : Int,
 (
 Row w33 { block := b32, off := (7 : Nat) } (0 : Nat) [Value.int IntKind.i64 n35, Value.string s36, Value.string s37, Value.int IntKind.i64 n38]) ∧
 Ca Try.prog (16 : Nat) #[Value.agg #[Value.int IntKind.i64 n35, Value.string s36, Value.string s37, Value.int IntKind.i64 n38]] w33 fun e39 w40 =>
 ∃ s41 : ByteArray,
 ∃ n42 : Int,
 (
 e39 = Ending.returned (Value.tuple #[Value.string s41, Value.int IntKind.i64 n42])) ∧
 R (Ending.returned (Value.tuple #[Value.string s41, Value.bool (n42 == (0 : Int))])) w40)
 (
 Br (n34 == (2 : Int))
 (
 ∃ n43 : Int,
 ∃ s44 : ByteArray,
 ∃ n45 : Int,
 ∃ n46 : Int,
 (
 Row w33 { block := b32, off := (11 : Nat) } (0 : Nat) [Value.int IntKind.i64 n43, Value.string s44, Value.int IntKind.i64 n45, Value.int IntKind.i64 n46]) ∧
 Ca Try.prog (103 : Nat) #[Value.agg #[Value.int IntKind.i64 n43, Value.string s44, Value.int IntKind.i64 n45, Value.int IntKind.i64 n46]] w33 fun e47 w48 =>
 ∃ s49 : ByteArray,
 ∃ b50 : Bool,
 (
 e47 = Ending.returned (Value.tuple #[Value.string s49, Value.bool b50])) ∧
 R (Ending.returned (Value.tuple #[Value.string s49, Value.bool b50])) w48)
 (
 Br (n34 == (4 : Int))
 (
 ∃ n51 : Int,
 ∃ n52 : Int,
 ∃ n53 : Int,
 ∃ n54 : Int,
 ∃ s55 : ByteArray,
 ∃ s56 : ByteArray,
 ∃ n57 : Int,
 (
 Row w33 { block := b32, off := (16 : Nat) } (0 : Nat) [Value.int IntKind.i64 n51, Value.int IntKind.i64 n52, Value.int IntKind.i64 n53, Value.int IntKind.i64 n54, Value.string s55, Value.string s56, Value.int IntKind.i64 n57]) ∧
 Ca Try.prog (104 : Nat) #[Value.agg #[Value.int IntKind.i64 n51, Value.int IntKind.i64 n52, Value.int IntKind.i64 n53, Value.int IntKind.i64 n54, Value.string s55, Value.string s56, Value.int IntKind.i64 n57]] w33 fun e58 w59 =>
 ∃ s60 : ByteArray,
 ∃ b61 : Bool,
 (
 e58 = Ending.returned (Value.tuple #[Value.string s60, Value.bool b61])) ∧
 R (Ending.returned (Value.tuple #[Value.string s60, Value.bool b61])) w59)
 (
 Br (n34 == (8 : Int))
 (
 ∃ n62 : Int,
 ∃ p63 : Option Addr,
 ∃ k64 : Nat,
 ∃ k65 : Nat,
 ∃ n66 : Int,
 (
 Row w33 { block := b32, off := (23 : Nat) } (0 : Nat) [Value.int IntKind.i64 n62, Value.slice p63 k64 k65, Value.int IntKind.i64 n66]) ∧
 Ca Try.prog (43 : Nat) #[Value.agg #[Value.int IntKind.i64 n62, Value.slice p63 k64 k65, Value.int IntKind.i64 n66]] w33 fun e67 w68 =>
 ∃ s69 : ByteArray,
 ∃ n70 : Int,
 (
 e67 = Ending.returned (Value.tuple #[Value.string s69, Value.int IntKind.i64 n70])) ∧
 R (Ending.returned (Value.tuple #[Value.string s69, Value.bool (n70 == (0 : Int))])) w68)
 (
 R (Ending.returned (Value.tuple #[Value.string { data := #[] }, Value.bool true])) w33))))
theorem frest_ok (n1 : Int) (n2 : Int) (n3 : Int) (n4 : Int) (n5 : Int) (n6 : Int) (n7 : Int) (n8 : Int) (s9 : ByteArray) (s10 : ByteArray) (n11 : Int) (n12 : Int) (s13 : ByteArray) (n14 : Int) (n15 : Int) (n16 : Int) (n17 : Int) (n18 : Int) (n19 : Int) (n20 : Int) (s21 : ByteArray) (s22 : ByteArray) (n23 : Int) (n24 : Int) (p25 : Option Addr) (k26 : Nat) (k27 : Nat) (n28 : Int) (n29 : Int) (n30 : Int) (n31 : Int) (w : World) (R : Ending → World → Prop) (h : frest n1 n2 n3 n4 n5 n6 n7 n8 s9 s10 n11 n12 s13 n14 n15 n16 n17 n18 n19 n20 s21 s22 n23 n24 p25 k26 k27 n28 n29 n30 n31 w R) : Ca Try.prog 82 #[Value.agg #[Value.int IntKind.i64 n1, Value.int IntKind.i64 n2, Value.int IntKind.i64 n3, Value.int IntKind.i64 n4, Value.int IntKind.i64 n5, Value.int IntKind.i64 n6, Value.int IntKind.i64 n7, Value.int IntKind.i64 n8, Value.string s9, Value.string s10, Value.int IntKind.i64 n11, Value.int IntKind.i64 n12, Value.string s13, Value.int IntKind.i64 n14, Value.int IntKind.i64 n15, Value.int IntKind.i64 n16, Value.int IntKind.i64 n17, Value.int IntKind.i64 n18, Value.int IntKind.i64 n19, Value.int IntKind.i64 n20, Value.string s21, Value.string s22, Value.int IntKind.i64 n23, Value.int IntKind.i64 n24, Value.slice p25 k26 k27, Value.int IntKind.i64 n28, Value.int IntKind.i64 n29, Value.int IntKind.i64 n30, Value.int IntKind.i64 n31]] w R :=
 Ca.of_fvc (c := bodyOf Try.f82) (by kernel_rfl) Try.func82 (by kernel_rfl) [] (Eq.mp (by kernel_rfl) h)

def fplain (n1 : Int) (n2 : Int) (n3 : Int) (n4 : Int) (n5 : Int) (n6 : Int) (n7 : Int) (n8 : Int) (s9 : ByteArray) (s10 : ByteArray) (n11 : Int) (n12 : Int) (s13 : ByteArray) (n14 : Int) (n15 : Int) (n16 : Int) (n17 : Int) (n18 : Int) (n19 : Int) (n20 : Int) (s21 : ByteArray) (s22 : ByteArray) (n23 : Int) (n24 : Int) (p25 : Option Addr) (k26 : Nat) (k27 : Nat) (n28 : Int) (n29 : Int) (n30 : Int) (n31 : Int) (w : World) (R : Ending → World → Prop) : Prop :=
 LetA (Obj.cells #[Value.int IntKind.i64 n1, Value.int IntKind.i64 n2, Value.int IntKind.i64 n3, Value.int IntKind.i64 n4, Value.int IntKind.i64 n5, Value.int IntKind.i64 n6, Value.int IntKind.i64 n7, Value.int IntKind.i64 n8, Value.string s9, Value.string s10, Value.int IntKind.i64 n11, Value.int IntKind.i64 n12, Value.string s13, Value.int IntKind.i64 n14, Value.int IntKind.i64 n15, Value.int IntKind.i64 n16, Value.int IntKind.i64 n17, Value.int IntKind.i64 n18, Value.int IntKind.i64 n19, Value.int IntKind.i64 n20, Value.string s21, Value.string s22, Value.int IntKind.i64 n23, Value.int IntKind.i64 n24, Value.slice p25 k26 k27, Value.int IntKind.i64 n28, Value.int IntKind.i64 n29, Value.int IntKind.i64 n30, Value.int IntKind.i64 n31] (58 : Nat)) w fun b32 w33 =>
 LetA (Obj.cells #[Value.int IntKind.i64 (0 : Int), Value.int IntKind.i64 (0 : Int), Value.int IntKind.i64 (0 : Int), Value.int IntKind.i64 (0 : Int), Value.int IntKind.i64 (0 : Int), Value.int IntKind.i64 (0 : Int), Value.int IntKind.i64 (0 : Int), Value.int IntKind.i64 (0 : Int), Value.string { data := #[] }, Value.string { data := #[] }, Value.int IntKind.i64 (0 : Int), Value.int IntKind.i64 (0 : Int), Value.string { data := #[] }, Value.int IntKind.i64 (0 : Int), Value.int IntKind.i64 (0 : Int), Value.int IntKind.i64 (0 : Int), Value.int IntKind.i64 (0 : Int), Value.int IntKind.i64 (0 : Int), Value.int IntKind.i64 (0 : Int), Value.int IntKind.i64 (0 : Int), Value.string { data := #[] }, Value.string { data := #[] }, Value.int IntKind.i64 (0 : Int), Value.int IntKind.i64 (0 : Int), Value.slice none (0 : Nat) (0 : Nat), Value.int IntKind.i64 (0 : Int), Value.int IntKind.i64 (0 : Int), Value.int IntKind.i64 (0 : Int), Value.int IntKind.i64 (0 : Int)] (58 : Nat)) w33 fun b34 w35 =>
 ∃ n36 : Int,
 (
 w35.cell? { block := b32, off := (0 : Nat) } = some (Value.int IntKind.i64 n36)) ∧
 LetA (Obj.cells #[Value.int IntKind.i64 (0 : Int), Value.int IntKind.i64 (0 : Int), Value.int IntKind.i64 (0 : Int), Value.int IntKind.i64 (0 : Int), Value.int IntKind.i64 (0 : Int), Value.int IntKind.i64 (0 : Int), Value.int IntKind.i64 (0 : Int), Value.int IntKind.i64 (0 : Int), Value.string { data := #[] }, Value.string { data := #[] }, Value.int IntKind.i64 (0 : Int), Value.int IntKind.i64 (0 : Int), Value.string { data := #[] }, Value.int IntKind.i64 (0 : Int), Value.int IntKind.i64 (0 : Int), Value.int IntKind.i64 (0 : Int), Value.int IntKind.i64 (0 : Int), Value.int IntKind.i64 (0 : Int), Value.int IntKind.i64 (0 : Int), Value.int IntKind.i64 (0 : Int), Value.string { data := #[] }, Value.string { data := #[] }, Value.int IntKind.i64 (0 : Int), Value.int IntKind.i64 (0 : Int), Value.slice none (0 : Nat) (0 : Nat), Value.int IntKind.i64 (0 : Int), Value.int IntKind.i64 (0 : Int), Value.int IntKind.i64 (0 : Int), Value.int IntKind.i64 (0 : Int)] (58 : Nat)) w35 fun b37 w38 =>
 (
 WrRow w38 { block := b37, off := (0 : Nat) } (0 : Nat) [Value.int IntKind.i64 n36, Value.int IntKind.i64 (0 : Int), Value.int IntKind.i64 (0 : Int), Value.int IntKind.i64 (0 : Int), Value.int IntKind.i64 (0 : Int), Value.int IntKind.i64 (0 : Int), Value.int IntKind.i64 (0 : Int), Value.int IntKind.i64 (0 : Int), Value.string { data := #[] }, Value.string { data := #[] }, Value.int IntKind.i64 (0 : Int), Value.int IntKind.i64 (0 : Int), Value.string { data := #[] }, Value.int IntKind.i64 (0 : Int), Value.int IntKind.i64 (0 : Int), Value.int IntKind.i64 (0 : Int), Value.int IntKind.i64 (0 : Int), Value.int IntKind.i64 (0 : Int), Value.int IntKind.i64 (0 : Int), Value.int IntKind.i64 (0 : Int), Value.string { data := #[] }, Value.string { data := #[] }, Value.int IntKind.i64 (0 : Int), Value.int IntKind.i64 (0 : Int), Value.slice none (0 : Nat) (0 : Nat), Value.int IntKind.i64 (0 : Int), Value.int IntKind.i64 (0 : Int), Value.int IntKind.i64 (0 : Int), Value.int IntKind.i64 (0 : Int)]) ∧
 LetW (setRow w38 { block := b37, off := (0 : Nat) } (0 : Nat) [Value.int IntKind.i64 n36, Value.int IntKind.i64 (0 : Int), Value.int IntKind.i64 (0 : Int), Value.int IntKind.i64 (0 : Int), Value.int IntKind.i64 (0 : Int), Value.int IntKind.i64 (0 : Int), Value.int IntKind.i64 (0 : Int), Value.int IntKind.i64 (0 : Int), Value.string { data := #[] }, Value.string { data := #[] }, Value.int IntKind.i64 (0 : Int), Value.int IntKind.i64 (0 : Int), Value.string { data := #[] }, Value.int IntKind.i64 (0 : Int), Value.int IntKind.i64 (0 : Int), Value.int IntKind.i64 (0 : Int), Value.int IntKind.i64 (0 : Int), Value.int IntKind.i64 (0 : Int), Value.int IntKind.i64 (0 : Int), Value.int IntKind.i64 (0 : Int), Value.string { data := #[] }, Value.string { data := #[] }, Value.int IntKind.i64 (0 : Int), Value.int IntKind.i64 (0 : Int), Value.slice none (0 : Nat) (0 : Nat), Value.int IntKind.i64 (0 : Int), Value.int IntKind.i64 (0 : Int), Value.int IntKind.i64 (0 : Int), Value.int IntKind.i64 (0 : Int)]) fun w39 =>
 ∃ n40 : Int,
 (
 w39.cell? { block := b32, off := (0 : Nat) } = some (Value.int IntKind.i64 n40)) ∧
 Ca Try.prog (75 : Nat) #[Value.int IntKind.i64 n40] w39 fun e41 w42 =>
 ∃ p43 : Option Addr,
 ∃ k44 : Nat,
 ∃ k45 : Nat,
 (
 e41 = Ending.returned (Value.slice p43 k44 k45)) ∧
 ∃ I46 : Nat → List Value → World → Prop,
 (
 ∃ k47 : Nat,
 I46 k47 [Value.int IntKind.i64 (0 : Int)] w42) ∧
 ∀ n48 : Int,
 ∀ k49 : Nat,
 ∀ w50 : World,
 (
 I46 k49 [Value.int IntKind.i64 n48] w50) →
 Br (decide (n48 < (↑k44 : Int)))
 (
 NilOk p43 fun a51 =>
 (
 (
 (0 : Int) ≤ n48) ∧
 n48 < (↑k44 : Int)) ∧
 ∃ k52 : FuncId,
 ∃ x53 : Array Value,
 ∃ x54 : Array Value,
 (
 w50.cell? (a51.add (n48.toNat * (1 : Nat))) = some (Value.func (Fn.func k52) x53 x54)) ∧
 Br (calleeOk Try.prog k52)
 (
 Ca Try.prog k52 (x53.toList ++ [Value.pointer (some { block := b37, off := (0 : Nat) })] ++ x54.toList).toArray w50 fun e55 w56 =>
 ∃ p57 : Option Addr,
 (
 e55 = Ending.returned (Value.pointer p57)) ∧
 Br (calleeOk Try.prog k52)
 (
 Ca Try.prog k52 (x53.toList ++ [Value.pointer (some { block := b32, off := (0 : Nat) })] ++ x54.toList).toArray w56 fun e58 w59 =>
 ∃ p60 : Option Addr,
 (
 e58 = Ending.returned (Value.pointer p60)) ∧
 NilOk p60 fun a61 =>
 ∃ n62 : Int,
 (
 w59.cell? a61 = some (Value.int IntKind.i64 n62)) ∧
 NilOk p57 fun a63 =>
 (
 Wr w59 a63) ∧
 LetW (w59.setCell a63 (Value.int IntKind.i64 n62)) fun w64 =>
 LetI (IntKind.i64.wrap (n48 + (1 : Int))) fun n65 =>
 ∃ k66 : Nat,
 (
 k66 < k49) ∧
 I46 k66 [Value.int IntKind.i64 n65] w64)
 (
 RunsX Try.prog k52 (x53.toList ++ [Value.pointer (some { block := b32, off := (0 : Nat) })] ++ x54.toList).toArray w56 fun v67 w68 =>
 ∃ p69 : Option Addr,
 (
 v67 = Value.pointer p69) ∧
 NilOk p69 fun a70 =>
 ∃ n71 : Int,
 (
 w68.cell? a70 = some (Value.int IntKind.i64 n71)) ∧
 NilOk p57 fun a72 =>
 (
 Wr w68 a72) ∧
 LetW (w68.setCell a72 (Value.int IntKind.i64 n71)) fun w73 =>
 LetI (IntKind.i64.wrap (n48 + (1 : Int))) fun n74 =>
 ∃ k75 : Nat,
 (
 k75 < k49) ∧
 I46 k75 [Value.int IntKind.i64 n74] w73))
 (
 RunsX Try.prog k52 (x53.toList ++ [Value.pointer (some { block := b37, off := (0 : Nat) })] ++ x54.toList).toArray w50 fun v76 w77 =>
 ∃ p78 : Option Addr,
 (
 v76 = Value.pointer p78) ∧
 Br (calleeOk Try.prog k52)
 (
 Ca Try.prog k52 (x53.toList ++ [Value.pointer (some { block := b32, off := (0 : Nat) })] ++ x54.toList).toArray w77 fun e79 w80 =>
 ∃ p81 : Option Addr,
 (
 e79 = Ending.returned (Value.pointer p81)) ∧
 NilOk p81 fun a82 =>
 ∃ n83 : Int,
 (
 w80.cell? a82 = some (Value.int IntKind.i64 n83)) ∧
 NilOk p78 fun a84 =>
 (
 Wr w80 a84) ∧
 LetW (w80.setCell a84 (Value.int IntKind.i64 n83)) fun w85 =>
 LetI (IntKind.i64.wrap (n48 + (1 : Int))) fun n86 =>
 ∃ k87 : Nat,
 (
 k87 < k49) ∧
 I46 k87 [Value.int IntKind.i64 n86] w85)
 (
 RunsX Try.prog k52 (x53.toList ++ [Value.pointer (some { block := b32, off := (0 : Nat) })] ++ x54.toList).toArray w77 fun v88 w89 =>
 ∃ p90 : Option Addr,
 (
 v88 = Value.pointer p90) ∧
 NilOk p90 fun a91 =>
 ∃ n92 : Int,
 (
 w89.cell? a91 = some (Value.int IntKind.i64 n92)) ∧
 NilOk p78 fun a93 =>
 (
 Wr w89 a93) ∧
 LetW (w89.setCell a93 (Value.int IntKind.i64 n92)) fun w94 =>
 LetI (IntKind.i64.wrap (n48 + (1 : Int))) fun n95 =>
 ∃ k96 : Nat,
 (
 k96 < k49) ∧
 I46 k96 [Value.int IntKind.i64 n95] w94)))
 (
 ∃ I97 : List Value → World → Prop,
 (
 ∃ n98 : Int,
 (
 w50.cell? { block := b32, off := (0 : Nat) } = some (Value.int IntKind.i64 n98)) ∧
 Br (n98 == (1 : Int))
 (
 ∃ n99 : Int,
 ∃ s100 : ByteArray,
 ∃ s101 : ByteArray,
 ∃ n102 : Int,
 (
 Row w50 { block := b32, off := (7 : Nat) } (0 : Nat) [Value.int IntKind.i64 n99, Value.string s100, Value.string s101, Value.int IntKind.i64 n102]) ∧
 (
 WrRow w50 { block := b37, off := (7 : Nat) } (0 : Nat) [Value.int IntKind.i64 n99, Value.string s100, Value.string s101, Value.int IntKind.i64 n102]) ∧
 LetW (setRow w50 { block := b37, off := (7 : Nat) } (0 : Nat) [Value.int IntKind.i64 n99, Value.string s100, Value.string s101, Value.int IntKind.i64 n102]) fun w103 =>
 I97 [] w103)
 (
 Br (n98 == (2 : Int))
 (
 ∃ n104 : Int,
 ∃ s105 : ByteArray,
 ∃ n106 : Int,
 ∃ n107 : Int,
 (
 Row w50 { block := b32, off := (11 : Nat) } (0 : Nat) [Value.int IntKind.i64 n104, Value.string s105, Value.int IntKind.i64 n106, Value.int IntKind.i64 n107]) ∧
 (
 WrRow w50 { block := b37, off := (11 : Nat) } (0 : Nat) [Value.int IntKind.i64 n104, Value.string s105, Value.int IntKind.i64 n106, Value.int IntKind.i64 n107]) ∧
 LetW (setRow w50 { block := b37, off := (11 : Nat) } (0 : Nat) [Value.int IntKind.i64 n104, Value.string s105, Value.int IntKind.i64 n106, Value.int IntKind.i64 n107]) fun w108 =>
 I97 [] w108)
 (
 Br (n98 == (4 : Int))
 (
 ∃ n109 : Int,
 ∃ n110 : Int,
 ∃ n111 : Int,
 ∃ n112 : Int,
 ∃ s113 : ByteArray,
 ∃ s114 : ByteArray,
 ∃ n115 : Int,
 (
 Row w50 { block := b32, off := (16 : Nat) } (0 : Nat) [Value.int IntKind.i64 n109, Value.int IntKind.i64 n110, Value.int IntKind.i64 n111, Value.int IntKind.i64 n112, Value.string s113, Value.string s114, Value.int IntKind.i64 n115]) ∧
 (
 WrRow w50 { block := b37, off := (16 : Nat) } (0 : Nat) [Value.int IntKind.i64 n109, Value.int IntKind.i64 n110, Value.int IntKind.i64 n111, Value.int IntKind.i64 n112, Value.string s113, Value.string s114, Value.int IntKind.i64 n115]) ∧
 LetW (setRow w50 { block := b37, off := (16 : Nat) } (0 : Nat) [Value.int IntKind.i64 n109, Value.int IntKind.i64 n110, Value.int IntKind.i64 n111, Value.int IntKind.i64 n112, Value.string s113, Value.string s114, Value.int IntKind.i64 n115]) fun w116 =>
 I97 [] w116)
 (
 Br (n98 == (8 : Int))
 (
 ∃ n117 : Int,
 ∃ p118 : Option Addr,
 ∃ k119 : Nat,
 ∃ k120 : Nat,
 ∃ n121 : Int,
 (
 Row w50 { block := b32, off := (23 : Nat) } (0 : Nat) [Value.int IntKind.i64 n117, Value.slice p118 k119 k120, Value.int IntKind.i64 n121]) ∧
 (
 WrRow w50 { block := b37, off := (23 : Nat) } (0 : Nat) [Value.int IntKind.i64 n117, Value.slice p118 k119 k120, Value.int IntKind.i64 n121]) ∧
 LetW (setRow w50 { block := b37, off := (23 : Nat) } (0 : Nat) [Value.int IntKind.i64 n117, Value.slice p118 k119 k120, Value.int IntKind.i64 n121]) fun w122 =>
 ∃ p123 : Option Addr,
 ∃ k124 : Nat,
 ∃ k125 : Nat,
 (
 w122.cell? { block := b32, off := (24 : Nat) } = some (Value.slice p123 k124 k125)) ∧
 RunsV Try.prog (Builtin.append_ #[(35 : Nat), (35 : Nat)] (35 : Nat) #[Value.slice none (0 : Nat) (0 : Nat), Value.slice p123 k124 k125]) w122 fun v126 w127 =>
 ∃ p128 : Option Addr,
 ∃ k129 : Nat,
 ∃ k130 : Nat,
 (
 v126 = Value.slice p128 k129 k130) ∧
 (
 Wr w127 { block := b37, off := (24 : Nat) }) ∧
 LetW (w127.setCell { block := b37, off := (24 : Nat) } (Value.slice p128 k129 k130)) fun w131 =>
 I97 [] w131)
 (
 I97 [] w50))))) ∧
 ∀ w132 : World,
 (
 I97 [] w132) →
 ∃ n133 : Int,
 ∃ n134 : Int,
 ∃ n135 : Int,
 ∃ n136 : Int,
 ∃ n137 : Int,
 ∃ n138 : Int,
 ∃ n139 : Int,
 ∃ n140 : Int,
 ∃ s141 : ByteArray,
 ∃ s142 : ByteArray,
 ∃ n143 : Int,
 ∃ n144 : Int,
 ∃ s145 : ByteArray,
 ∃ n146 : Int,
 ∃ n147 : Int,
 ∃ n148 : Int,
 ∃ n149 : Int,
 ∃ n150 : Int,
 ∃ n151 : Int,
 ∃ n152 : Int,
 ∃ s153 : ByteArray,
 ∃ s154 : ByteArray,
 ∃ n155 : Int,
 ∃ n156 : Int,
 ∃ p157 : Option Addr,
 ∃ k158 : Nat,
 ∃ k159 : Nat,
 ∃ n160 : Int,
 ∃ n161 : Int,
 ∃ n162 : Int,
 ∃ n163 : Int,
 (
 Row w132 { block := b37, off := (0 : Nat) } (0 : Nat) [Value.int IntKind.i64 n133, Value.int IntKind.i64 n134, Value.int IntKind.i64 n135, Value.int IntKind.i64 n136, Value.int IntKind.i64 n137, Value.int IntKind.i64 n138, Value.int IntKind.i64 n139, Value.int IntKind.i64 n140, Value.string s141, Value.string s142, Value.int IntKind.i64 n143, Value.int IntKind.i64 n144, Value.string s145, Value.int IntKind.i64 n146, Value.int IntKind.i64 n147, Value.int IntKind.i64 n148, Value.int IntKind.i64 n149, Value.int IntKind.i64 n150, Value.int IntKind.i64 n151, Value.int IntKind.i64 n152, Value.string s153, Value.string s154, Value.int IntKind.i64 n155, Value.int IntKind.i64 n156, Value.slice p157 k158 k159, Value.int IntKind.i64 n160, Value.int IntKind.i64 n161, Value.int IntKind.i64 n162, Value.int IntKind.i64 n163]) ∧
 (
 WrRow w132 { block := b34, off := (0 : Nat) } (0 : Nat) [Value.int IntKind.i64 n133, Value.int IntKind.i64 n134, Value.int IntKind.i64 n135, Value.int IntKind.i64 n136, Value.int IntKind.i64 n137, Value.int IntKind.i64 n138, Value.int IntKind.i64 n139, Value.int IntKind.i64 n140, Value.string s141, Value.string s142, Value.int IntKind.i64 n143, Value.int IntKind.i64 n144, Value.string s145, Value.int IntKind.i64 n146, Value.int IntKind.i64 n147, Value.int IntKind.i64 n148, Value.int IntKind.i64 n149, Value.int IntKind.i64 n150, Value.int IntKind.i64 n151, Value.int IntKind.i64 n152, Value.string s153, Value.string s154, Value.int IntKind.i64 n155, Value.int IntKind.i64 n156, Value.slice p157 k158 k159, Value.int IntKind.i64 n160, Value.int IntKind.i64 n161, Value.int IntKind.i64 n162, Value.int IntKind.i64 n163]) ∧
 LetW (setRow w132 { block := b34, off := (0 : Nat) } (0 : Nat) [Value.int IntKind.i64 n133, Value.int IntKind.i64 n134, Value.int IntKind.i64 n135, Value.int IntKind.i64 n136, Value.int IntKind.i64 n137, Value.int IntKind.i64 n138, Value.int IntKind.i64 n139, Value.int IntKind.i64 n140, Value.string s141, Value.string s142, Value.int IntKind.i64 n143, Value.int IntKind.i64 n144, Value.string s145, Value.int IntKind.i64 n146, Value.int IntKind.i64 n147, Value.int IntKind.i64 n148, Value.int IntKind.i64 n149, Value.int IntKind.i64 n150, Value.int IntKind.i64 n151, Value.int IntKind.i64 n152, Value.string s153, Value.string s154, Value.int IntKind.i64 n155, Value.int IntKind.i64 n156, Value.slice p157 k158 k159, Value.int IntKind.i64 n160, Value.int IntKind.i64 n161, Value.int IntKind.i64 n162, Value.int IntKind.i64 n163]) fun w164 =>
 ∃ n165 : Int,
 ∃ n166 : Int,
 ∃ n167 : Int,
 ∃ n168 : Int,
 ∃ n169 : Int,
 ∃ n170 : Int,
 ∃ n171 : Int,
 ∃ n172 : Int,
 ∃ s173 : ByteArray,
 ∃ s174 : ByteArray,
 ∃ n175 : Int,
 ∃ n176 : Int,
 ∃ s177 : ByteArray,
 ∃ n178 : Int,
 ∃ n179 : Int,
 ∃ n180 : Int,
 ∃ n181 : Int,
 ∃ n182 : Int,
 ∃ n183 : Int,
 ∃ n184 : Int,
 ∃ s185 : ByteArray,
 ∃ s186 : ByteArray,
 ∃ n187 : Int,
 ∃ n188 : Int,
 ∃ p189 : Option Addr,
 ∃ k190 : Nat,
 ∃ k191 : Nat,
 ∃ n192 : Int,
 ∃ n193 : Int,
 ∃ n194 : Int,
 ∃ n195 : Int,
 (
 Row w164 { block := b34, off := (0 : Nat) } (0 : Nat) [Value.int IntKind.i64 n165, Value.int IntKind.i64 n166, Value.int IntKind.i64 n167, Value.int IntKind.i64 n168, Value.int IntKind.i64 n169, Value.int IntKind.i64 n170, Value.int IntKind.i64 n171, Value.int IntKind.i64 n172, Value.string s173, Value.string s174, Value.int IntKind.i64 n175, Value.int IntKind.i64 n176, Value.string s177, Value.int IntKind.i64 n178, Value.int IntKind.i64 n179, Value.int IntKind.i64 n180, Value.int IntKind.i64 n181, Value.int IntKind.i64 n182, Value.int IntKind.i64 n183, Value.int IntKind.i64 n184, Value.string s185, Value.string s186, Value.int IntKind.i64 n187, Value.int IntKind.i64 n188, Value.slice p189 k190 k191, Value.int IntKind.i64 n192, Value.int IntKind.i64 n193, Value.int IntKind.i64 n194, Value.int IntKind.i64 n195]) ∧
 R (Ending.returned (Value.agg #[Value.int IntKind.i64 n165, Value.int IntKind.i64 n166, Value.int IntKind.i64 n167, Value.int IntKind.i64 n168, Value.int IntKind.i64 n169, Value.int IntKind.i64 n170, Value.int IntKind.i64 n171, Value.int IntKind.i64 n172, Value.string s173, Value.string s174, Value.int IntKind.i64 n175, Value.int IntKind.i64 n176, Value.string s177, Value.int IntKind.i64 n178, Value.int IntKind.i64 n179, Value.int IntKind.i64 n180, Value.int IntKind.i64 n181, Value.int IntKind.i64 n182, Value.int IntKind.i64 n183, Value.int IntKind.i64 n184, Value.string s185, Value.string s186, Value.int IntKind.i64 n187, Value.int IntKind.i64 n188, Value.slice p189 k190 k191, Value.int IntKind.i64 n192, Value.int IntKind.i64 n193, Value.int IntKind.i64 n194, Value.int IntKind.i64 n195])) w164)
theorem fplain_ok (n1 : Int) (n2 : Int) (n3 : Int) (n4 : Int) (n5 : Int) (n6 : Int) (n7 : Int) (n8 : Int) (s9 : ByteArray) (s10 : ByteArray) (n11 : Int) (n12 : Int) (s13 : ByteArray) (n14 : Int) (n15 : Int) (n16 : Int) (n17 : Int) (n18 : Int) (n19 : Int) (n20 : Int) (s21 : ByteArray) (s22 : ByteArray) (n23 : Int) (n24 : Int) (p25 : Option Addr) (k26 : Nat) (k27 : Nat) (n28 : Int) (n29 : Int) (n30 : Int) (n31 : Int) (w : World) (R : Ending → World → Prop) (h : fplain n1 n2 n3 n4 n5 n6 n7 n8 s9 s10 n11 n12 s13 n14 n15 n16 n17 n18 n19 n20 s21 s22 n23 n24 p25 k26 k27 n28 n29 n30 n31 w R) : Ca Try.prog 49 #[Value.agg #[Value.int IntKind.i64 n1, Value.int IntKind.i64 n2, Value.int IntKind.i64 n3, Value.int IntKind.i64 n4, Value.int IntKind.i64 n5, Value.int IntKind.i64 n6, Value.int IntKind.i64 n7, Value.int IntKind.i64 n8, Value.string s9, Value.string s10, Value.int IntKind.i64 n11, Value.int IntKind.i64 n12, Value.string s13, Value.int IntKind.i64 n14, Value.int IntKind.i64 n15, Value.int IntKind.i64 n16, Value.int IntKind.i64 n17, Value.int IntKind.i64 n18, Value.int IntKind.i64 n19, Value.int IntKind.i64 n20, Value.string s21, Value.string s22, Value.int IntKind.i64 n23, Value.int IntKind.i64 n24, Value.slice p25 k26 k27, Value.int IntKind.i64 n28, Value.int IntKind.i64 n29, Value.int IntKind.i64 n30, Value.int IntKind.i64 n31]] w R :=
 Ca.of_fvc (c := bodyOf Try.f49) (by kernel_rfl) Try.func49 (by kernel_rfl) [17] (Eq.mp (by kernel_rfl) h)

def fput (n1 : Int) (n2 : Int) (n3 : Int) (n4 : Int) (n5 : Int) (n6 : Int) (n7 : Int) (n8 : Int) (s9 : ByteArray) (s10 : ByteArray) (n11 : Int) (n12 : Int) (s13 : ByteArray) (n14 : Int) (n15 : Int) (n16 : Int) (n17 : Int) (n18 : Int) (n19 : Int) (n20 : Int) (s21 : ByteArray) (s22 : ByteArray) (n23 : Int) (n24 : Int) (p25 : Option Addr) (k26 : Nat) (k27 : Nat) (n28 : Int) (n29 : Int) (n30 : Int) (n31 : Int) (w : World) (R : Ending → World → Prop) : Prop :=
 LetA (Obj.cells #[Value.int IntKind.i64 n1, Value.int IntKind.i64 n2, Value.int IntKind.i64 n3, Value.int IntKind.i64 n4, Value.int IntKind.i64 n5, Value.int IntKind.i64 n6, Value.int IntKind.i64 n7, Value.int IntKind.i64 n8, Value.string s9, Value.string s10, Value.int IntKind.i64 n11, Value.int IntKind.i64 n12, Value.string s13, Value.int IntKind.i64 n14, Value.int IntKind.i64 n15, Value.int IntKind.i64 n16, Value.int IntKind.i64 n17, Value.int IntKind.i64 n18, Value.int IntKind.i64 n19, Value.int IntKind.i64 n20, Value.string s21, Value.string s22, Value.int IntKind.i64 n23, Value.int IntKind.i64 n24, Value.slice p25 k26 k27, Value.int IntKind.i64 n28, Value.int IntKind.i64 n29, Value.int IntKind.i64 n30, Value.int IntKind.i64 n31] (58 : Nat)) w fun b32 w33 =>
 ∃ n34 : Int,
 (
 w33.cell? { block := b32, off := (0 : Nat) } = some (Value.int IntKind.i64 n34)) ∧
 Br (decide (n34 < (1 : Int)))
 (
 R (Ending.returned (Value.tuple #[Value.string { data := #[] }, Value.int IntKind.i64 (2 : Int)])) w33)
 (
 ∃ n35 : Int,
 (
 w33.cell? { block := b32, off := (0 : Nat) } = some (Value.int IntKind.i64 n35)) ∧
 Br (decide (n35 > (12 : Int)))
 (
 R (Ending.returned (Value.tuple #[Value.string { data := #[] }, Value.int IntKind.i64 (2 : Int)])) w33)
 (
 ∃ n36 : Int,
 (
 w33.cell? { block := b32, off := (0 : Nat) } = some (Value.int IntKind.i64 n36)) ∧
 Ca Try.prog (53 : Nat) #[Value.int IntKind.i64 n36] w33 fun e37 w38 =>
 ∃ s39 : ByteArray,
 (
 e37 = Ending.returned (Value.string s39)) ∧
 ∃ n40 : Int,
 (
 w38.cell? { block := b32, off := (0 : Nat) } = some (Value.int IntKind.i64 n40)) ∧
 Ca Try.prog (75 : Nat) #[Value.int IntKind.i64 n40] w38 fun e41 w42 =>
 ∃ p43 : Option Addr,
 ∃ k44 : Nat,
 ∃ k45 : Nat,
 (
 e41 = Ending.returned (Value.slice p43 k44 k45)) ∧
 ∃ I46 : Nat → List Value → World → Prop,
 (
 ∃ k47 : Nat,
 I46 k47 [Value.string { data := #[] }, Value.int IntKind.i64 (0 : Int), Value.string s39, Value.int IntKind.i64 (0 : Int)] w42) ∧
 ∀ s48 : ByteArray,
 ∀ n49 : Int,
 ∀ s50 : ByteArray,
 ∀ n51 : Int,
 ∀ k52 : Nat,
 ∀ w53 : World,
 (
 I46 k52 [Value.string s48, Value.int IntKind.i64 n49, Value.string s50, Value.int IntKind.i64 n51] w53) →
 Br (decide (n51 < (↑k44 : Int)))
 (
 NilOk p43 fun a54 =>
 (
 (
 (0 : Int) ≤ n51) ∧
 n51 < (↑k44 : Int)) ∧
 ∃ k55 : FuncId,
 ∃ x56 : Array Value,
 ∃ x57 : Array Value,
 (
 w53.cell? (a54.add (n51.toNat * (1 : Nat))) = some (Value.func (Fn.func k55) x56 x57)) ∧
 Br (calleeOk Try.prog k55)
 (
 Ca Try.prog k55 (x56.toList ++ [Value.pointer (some { block := b32, off := (0 : Nat) })] ++ x57.toList).toArray w53 fun e58 w59 =>
 ∃ p60 : Option Addr,
 (
 e58 = Ending.returned (Value.pointer p60)) ∧
 NilOk p60 fun a61 =>
 ∃ n62 : Int,
 (
 w59.cell? a61 = some (Value.int IntKind.i64 n62)) ∧
 Ca Try.prog (81 : Nat) #[Value.int IntKind.i64 n62] w59 fun e63 w64 =>
 ∃ b65 : Bool,
 (
 e63 = Ending.returned (Value.bool b65)) ∧
 Br (!b65)
 (
 R (Ending.returned (Value.tuple #[Value.string { data := #[] }, Value.int IntKind.i64 (2 : Int)])) w64)
 (
 Br (calleeOk Try.prog k55)
 (
 Ca Try.prog k55 (x56.toList ++ [Value.pointer (some { block := b32, off := (0 : Nat) })] ++ x57.toList).toArray w64 fun e66 w67 =>
 ∃ p68 : Option Addr,
 (
 e66 = Ending.returned (Value.pointer p68)) ∧
 NilOk p68 fun a69 =>
 ∃ n70 : Int,
 (
 w67.cell? a69 = some (Value.int IntKind.i64 n70)) ∧
 Ca Try.prog (53 : Nat) #[Value.int IntKind.i64 n70] w67 fun e71 w72 =>
 ∃ s73 : ByteArray,
 (
 e71 = Ending.returned (Value.string s73)) ∧
 (
 (↑(s50.size + s73.size) : Int) ≤ IntKind.i64.max) ∧
 LetI (IntKind.i64.wrap (n51 + (1 : Int))) fun n74 =>
 ∃ k75 : Nat,
 (
 k75 < k52) ∧
 I46 k75 [Value.string s48, Value.int IntKind.i64 n49, Value.string (s50 ++ s73), Value.int IntKind.i64 n74] w72)
 (
 RunsX Try.prog k55 (x56.toList ++ [Value.pointer (some { block := b32, off := (0 : Nat) })] ++ x57.toList).toArray w64 fun v76 w77 =>
 ∃ p78 : Option Addr,
 (
 v76 = Value.pointer p78) ∧
 NilOk p78 fun a79 =>
 ∃ n80 : Int,
 (
 w77.cell? a79 = some (Value.int IntKind.i64 n80)) ∧
 Ca Try.prog (53 : Nat) #[Value.int IntKind.i64 n80] w77 fun e81 w82 =>
 ∃ s83 : ByteArray,
 (
 e81 = Ending.returned (Value.string s83)) ∧
 (
 (↑(s50.size + s83.size) : Int) ≤ IntKind.i64.max) ∧
 LetI (IntKind.i64.wrap (n51 + (1 : Int))) fun n84 =>
 ∃ k85 : Nat,
 (
 k85 < k52) ∧
 I46 k85 [Value.string s48, Value.int IntKind.i64 n49, Value.string (s50 ++ s83), Value.int IntKind.i64 n84] w82)))
 (
 RunsX Try.prog k55 (x56.toList ++ [Value.pointer (some { block := b32, off := (0 : Nat) })] ++ x57.toList).toArray w53 fun v86 w87 =>
 ∃ p88 : Option Addr,
 (
 v86 = Value.pointer p88) ∧
 NilOk p88 fun a89 =>
 ∃ n90 : Int,
 (
 w87.cell? a89 = some (Value.int IntKind.i64 n90)) ∧
 Ca Try.prog (81 : Nat) #[Value.int IntKind.i64 n90] w87 fun e91 w92 =>
 ∃ b93 : Bool,
 (
 e91 = Ending.returned (Value.bool b93)) ∧
 Br (!b93)
 (
 R (Ending.returned (Value.tuple #[Value.string { data := #[] }, Value.int IntKind.i64 (2 : Int)])) w92)
 (
 Br (calleeOk Try.prog k55)
 (
 Ca Try.prog k55 (x56.toList ++ [Value.pointer (some { block := b32, off := (0 : Nat) })] ++ x57.toList).toArray w92 fun e94 w95 =>
 ∃ p96 : Option Addr,
 (
 e94 = Ending.returned (Value.pointer p96)) ∧
 NilOk p96 fun a97 =>
 ∃ n98 : Int,
 (
 w95.cell? a97 = some (Value.int IntKind.i64 n98)) ∧
 Ca Try.prog (53 : Nat) #[Value.int IntKind.i64 n98] w95 fun e99 w100 =>
 ∃ s101 : ByteArray,
 (
 e99 = Ending.returned (Value.string s101)) ∧
 (
 (↑(s50.size + s101.size) : Int) ≤ IntKind.i64.max) ∧
 LetI (IntKind.i64.wrap (n51 + (1 : Int))) fun n102 =>
 ∃ k103 : Nat,
 (
 k103 < k52) ∧
 I46 k103 [Value.string s48, Value.int IntKind.i64 n49, Value.string (s50 ++ s101), Value.int IntKind.i64 n102] w100)
 (
 RunsX Try.prog k55 (x56.toList ++ [Value.pointer (some { block := b32, off := (0 : Nat) })] ++ x57.toList).toArray w92 fun v104 w105 =>
 ∃ p106 : Option Addr,
 (
 v104 = Value.pointer p106) ∧
 NilOk p106 fun a107 =>
 ∃ n108 : Int,
 (
 w105.cell? a107 = some (Value.int IntKind.i64 n108)) ∧
 Ca Try.prog (53 : Nat) #[Value.int IntKind.i64 n108] w105 fun e109 w110 =>
 ∃ s111 : ByteArray,
 (
 e109 = Ending.returned (Value.string s111)) ∧
 (
 (↑(s50.size + s111.size) : Int) ≤ IntKind.i64.max) ∧
 LetI (IntKind.i64.wrap (n51 + (1 : Int))) fun n112 =>
 ∃ k113 : Nat,
 (
 k113 < k52) ∧
 I46 k113 [Value.string s48, Value.int IntKind.i64 n49, Value.string (s50 ++ s111), Value.int IntKind.i64 n112] w110))))
 (
 ∃ n114 : Int,
 ∃ n115 : Int,
 ∃ n116 : Int,
 ∃ n117 : Int,
 ∃ n118 : Int,
 ∃ n119 : Int,
 ∃ n120 : Int,
 ∃ n121 : Int,
 ∃ s122 : ByteArray,
 ∃ s123 : ByteArray,
 ∃ n124 : Int,
 ∃ n125 : Int,
 ∃ s126 : ByteArray,
 ∃ n127 : Int,
 ∃ n128 : Int,
 ∃ n129 : Int,
 ∃ n130 : Int,
 ∃ n131 : Int,
 ∃ n132 : Int,
 ∃ n133 : Int,
 ∃ s134 : ByteArray,
 ∃ s135 : ByteArray,
 ∃ n136 : Int,
 ∃ n137 : Int,
 ∃ p138 : Option Addr,
 ∃ k139 : Nat,
 ∃ k140 : Nat,
 ∃ n141 : Int,
 ∃ n142 : Int,
 ∃ n143 : Int,
 ∃ n144 : Int,
 (
 Row w53 { block := b32, off := (0 : Nat) } (0 : Nat) [Value.int IntKind.i64 n114, Value.int IntKind.i64 n115, Value.int IntKind.i64 n116, Value.int IntKind.i64 n117, Value.int IntKind.i64 n118, Value.int IntKind.i64 n119, Value.int IntKind.i64 n120, Value.int IntKind.i64 n121, Value.string s122, Value.string s123, Value.int IntKind.i64 n124, Value.int IntKind.i64 n125, Value.string s126, Value.int IntKind.i64 n127, Value.int IntKind.i64 n128, Value.int IntKind.i64 n129, Value.int IntKind.i64 n130, Value.int IntKind.i64 n131, Value.int IntKind.i64 n132, Value.int IntKind.i64 n133, Value.string s134, Value.string s135, Value.int IntKind.i64 n136, Value.int IntKind.i64 n137, Value.slice p138 k139 k140, Value.int IntKind.i64 n141, Value.int IntKind.i64 n142, Value.int IntKind.i64 n143, Value.int IntKind.i64 n144]) ∧
 Ca Try.prog (82 : Nat) #[Value.agg #[Value.int IntKind.i64 n114, Value.int IntKind.i64 n115, Value.int IntKind.i64 n116, Value.int IntKind.i64 n117, Value.int IntKind.i64 n118, Value.int IntKind.i64 n119, Value.int IntKind.i64 n120, Value.int IntKind.i64 n121, Value.string s122, Value.string s123, Value.int IntKind.i64 n124, Value.int IntKind.i64 n125, Value.string s126, Value.int IntKind.i64 n127, Value.int IntKind.i64 n128, Value.int IntKind.i64 n129, Value.int IntKind.i64 n130, Value.int IntKind.i64 n131, Value.int IntKind.i64 n132, Value.int IntKind.i64 n133, Value.string s134, Value.string s135, Value.int IntKind.i64 n136, Value.int IntKind.i64 n137, Value.slice p138 k139 k140, Value.int IntKind.i64 n141, Value.int IntKind.i64 n142, Value.int IntKind.i64 n143, Value.int IntKind.i64 n144]] w53 fun e145 w146 =>
 ∃ s147 : ByteArray,
 ∃ b148 : Bool,
 (
 e145 = Ending.returned (Value.tuple #[Value.string s147, Value.bool b148])) ∧
 Br (!b148)
 (
 R (Ending.returned (Value.tuple #[Value.string { data := #[] }, Value.int IntKind.i64 (2 : Int)])) w146)
 (
 LetI (IntKind.i64.wrap ((↑s50.size : Int) + (↑s147.size : Int))) fun n149 =>
 Br (decide (n149 > (512 : Int)))
 (
 R (Ending.returned (Value.tuple #[Value.string { data := #[] }, Value.int IntKind.i64 (3 : Int)])) w146)
 (
 (
 (↑(s50.size + s147.size) : Int) ≤ IntKind.i64.max) ∧
 R (Ending.returned (Value.tuple #[Value.string (s50 ++ s147), Value.int IntKind.i64 (0 : Int)])) w146)))))
theorem fput_ok (n1 : Int) (n2 : Int) (n3 : Int) (n4 : Int) (n5 : Int) (n6 : Int) (n7 : Int) (n8 : Int) (s9 : ByteArray) (s10 : ByteArray) (n11 : Int) (n12 : Int) (s13 : ByteArray) (n14 : Int) (n15 : Int) (n16 : Int) (n17 : Int) (n18 : Int) (n19 : Int) (n20 : Int) (s21 : ByteArray) (s22 : ByteArray) (n23 : Int) (n24 : Int) (p25 : Option Addr) (k26 : Nat) (k27 : Nat) (n28 : Int) (n29 : Int) (n30 : Int) (n31 : Int) (w : World) (R : Ending → World → Prop) (h : fput n1 n2 n3 n4 n5 n6 n7 n8 s9 s10 n11 n12 s13 n14 n15 n16 n17 n18 n19 n20 s21 s22 n23 n24 p25 k26 k27 n28 n29 n30 n31 w R) : Ca Try.prog 50 #[Value.agg #[Value.int IntKind.i64 n1, Value.int IntKind.i64 n2, Value.int IntKind.i64 n3, Value.int IntKind.i64 n4, Value.int IntKind.i64 n5, Value.int IntKind.i64 n6, Value.int IntKind.i64 n7, Value.int IntKind.i64 n8, Value.string s9, Value.string s10, Value.int IntKind.i64 n11, Value.int IntKind.i64 n12, Value.string s13, Value.int IntKind.i64 n14, Value.int IntKind.i64 n15, Value.int IntKind.i64 n16, Value.int IntKind.i64 n17, Value.int IntKind.i64 n18, Value.int IntKind.i64 n19, Value.int IntKind.i64 n20, Value.string s21, Value.string s22, Value.int IntKind.i64 n23, Value.int IntKind.i64 n24, Value.slice p25 k26 k27, Value.int IntKind.i64 n28, Value.int IntKind.i64 n29, Value.int IntKind.i64 n30, Value.int IntKind.i64 n31]] w R :=
 Ca.of_fvc (c := bodyOf Try.f50) (by kernel_rfl) Try.func50 (by kernel_rfl) [] (Eq.mp (by kernel_rfl) h)

def fnumber (b1 : Nat) (w : World) (R : Ending → World → Prop) : Prop :=
 ∃ s2 : ByteArray,
 (
 w.cell? { block := b1, off := (0 : Nat) } = some (Value.string s2)) ∧
 Ca Try.prog (58 : Nat) #[Value.string s2] w fun e3 w4 =>
 ∃ n5 : Int,
 ∃ s6 : ByteArray,
 ∃ b7 : Bool,
 (
 e3 = Ending.returned (Value.tuple #[Value.int IntKind.i64 n5, Value.string s6, Value.bool b7])) ∧
 ∃ b8 : Bool,
 (
 w4.cell? { block := b1, off := (1 : Nat) } = some (Value.bool b8)) ∧
 Br (b8)
 (
 (
 Wr w4 { block := b1, off := (0 : Nat) }) ∧
 LetW (w4.setCell { block := b1, off := (0 : Nat) } (Value.string s6)) fun w9 =>
 (
 Wr w9 { block := b1, off := (1 : Nat) }) ∧
 LetW (w9.setCell { block := b1, off := (1 : Nat) } (Value.bool b7)) fun w10 =>
 R (Ending.returned (Value.int IntKind.i64 n5)) w10)
 (
 (
 Wr w4 { block := b1, off := (0 : Nat) }) ∧
 LetW (w4.setCell { block := b1, off := (0 : Nat) } (Value.string s6)) fun w11 =>
 (
 Wr w11 { block := b1, off := (1 : Nat) }) ∧
 LetW (w11.setCell { block := b1, off := (1 : Nat) } (Value.bool false)) fun w12 =>
 R (Ending.returned (Value.int IntKind.i64 n5)) w12)
theorem fnumber_ok (b1 : Nat) (w : World) (R : Ending → World → Prop) (h : fnumber b1 w R) : Ca Try.prog 74 #[Value.pointer (some { block := b1, off := (0 : Nat) })] w R :=
 Ca.of_fvc (c := bodyOf Try.f74) (by kernel_rfl) Try.func74 (by kernel_rfl) [] (Eq.mp (by kernel_rfl) h)

def ftext (b1 : Nat) (w : World) (R : Ending → World → Prop) : Prop :=
 ∃ s2 : ByteArray,
 (
 w.cell? { block := b1, off := (0 : Nat) } = some (Value.string s2)) ∧
 Ca Try.prog (59 : Nat) #[Value.string s2] w fun e3 w4 =>
 ∃ s5 : ByteArray,
 ∃ s6 : ByteArray,
 ∃ b7 : Bool,
 (
 e3 = Ending.returned (Value.tuple #[Value.string s5, Value.string s6, Value.bool b7])) ∧
 ∃ b8 : Bool,
 (
 w4.cell? { block := b1, off := (1 : Nat) } = some (Value.bool b8)) ∧
 Br (b8)
 (
 (
 Wr w4 { block := b1, off := (0 : Nat) }) ∧
 LetW (w4.setCell { block := b1, off := (0 : Nat) } (Value.string s6)) fun w9 =>
 (
 Wr w9 { block := b1, off := (1 : Nat) }) ∧
 LetW (w9.setCell { block := b1, off := (1 : Nat) } (Value.bool b7)) fun w10 =>
 R (Ending.returned (Value.string s5)) w10)
 (
 (
 Wr w4 { block := b1, off := (0 : Nat) }) ∧
 LetW (w4.setCell { block := b1, off := (0 : Nat) } (Value.string s6)) fun w11 =>
 (
 Wr w11 { block := b1, off := (1 : Nat) }) ∧
 LetW (w11.setCell { block := b1, off := (1 : Nat) } (Value.bool false)) fun w12 =>
 R (Ending.returned (Value.string s5)) w12)
theorem ftext_ok (b1 : Nat) (w : World) (R : Ending → World → Prop) (h : ftext b1 w R) : Ca Try.prog 77 #[Value.pointer (some { block := b1, off := (0 : Nat) })] w R :=
 Ca.of_fvc (c := bodyOf Try.f77) (by kernel_rfl) Try.func77 (by kernel_rfl) [] (Eq.mp (by kernel_rfl) h)

def fop (b1 : Nat) (w : World) (R : Ending → World → Prop) : Prop :=
 LetA (Obj.cells #[Value.int IntKind.i64 (0 : Int), Value.string { data := #[] }, Value.string { data := #[] }, Value.int IntKind.i64 (0 : Int)] (23 : Nat)) w fun b2 w3 =>
 ∃ s4 : ByteArray,
 (
 w3.cell? { block := b1, off := (0 : Nat) } = some (Value.string s4)) ∧
 Ca Try.prog (23 : Nat) #[Value.string s4] w3 fun e5 w6 =>
 ∃ n7 : Int,
 ∃ s8 : ByteArray,
 ∃ s9 : ByteArray,
 ∃ n10 : Int,
 ∃ n11 : Int,
 (
 e5 = Ending.returned (Value.tuple #[Value.agg #[Value.int IntKind.i64 n7, Value.string s8, Value.string s9, Value.int IntKind.i64 n10], Value.int IntKind.i64 n11])) ∧
 LetA (Obj.cells #[Value.int IntKind.i64 (0 : Int), Value.string { data := #[] }, Value.string { data := #[] }, Value.int IntKind.i64 (0 : Int)] (23 : Nat)) w6 fun b12 w13 =>
 (
 WrRow w13 { block := b12, off := (0 : Nat) } (0 : Nat) [Value.int IntKind.i64 n7, Value.string s8, Value.string s9, Value.int IntKind.i64 n10]) ∧
 LetW (setRow w13 { block := b12, off := (0 : Nat) } (0 : Nat) [Value.int IntKind.i64 n7, Value.string s8, Value.string s9, Value.int IntKind.i64 n10]) fun w14 =>
 ∃ b15 : Bool,
 (
 w14.cell? { block := b1, off := (1 : Nat) } = some (Value.bool b15)) ∧
 Br (b15)
 (
 (
 Wr w14 { block := b1, off := (0 : Nat) }) ∧
 LetW (w14.setCell { block := b1, off := (0 : Nat) } (Value.string { data := #[] })) fun w16 =>
 (
 Wr w16 { block := b1, off := (1 : Nat) }) ∧
 LetW (w16.setCell { block := b1, off := (1 : Nat) } (Value.bool (n11 == (0 : Int)))) fun w17 =>
 ∃ n18 : Int,
 ∃ s19 : ByteArray,
 ∃ s20 : ByteArray,
 ∃ n21 : Int,
 (
 Row w17 { block := b12, off := (0 : Nat) } (0 : Nat) [Value.int IntKind.i64 n18, Value.string s19, Value.string s20, Value.int IntKind.i64 n21]) ∧
 (
 WrRow w17 { block := b2, off := (0 : Nat) } (0 : Nat) [Value.int IntKind.i64 n18, Value.string s19, Value.string s20, Value.int IntKind.i64 n21]) ∧
 LetW (setRow w17 { block := b2, off := (0 : Nat) } (0 : Nat) [Value.int IntKind.i64 n18, Value.string s19, Value.string s20, Value.int IntKind.i64 n21]) fun w22 =>
 ∃ n23 : Int,
 ∃ s24 : ByteArray,
 ∃ s25 : ByteArray,
 ∃ n26 : Int,
 (
 Row w22 { block := b2, off := (0 : Nat) } (0 : Nat) [Value.int IntKind.i64 n23, Value.string s24, Value.string s25, Value.int IntKind.i64 n26]) ∧
 R (Ending.returned (Value.agg #[Value.int IntKind.i64 n23, Value.string s24, Value.string s25, Value.int IntKind.i64 n26])) w22)
 (
 (
 Wr w14 { block := b1, off := (0 : Nat) }) ∧
 LetW (w14.setCell { block := b1, off := (0 : Nat) } (Value.string { data := #[] })) fun w27 =>
 (
 Wr w27 { block := b1, off := (1 : Nat) }) ∧
 LetW (w27.setCell { block := b1, off := (1 : Nat) } (Value.bool false)) fun w28 =>
 ∃ n29 : Int,
 ∃ s30 : ByteArray,
 ∃ s31 : ByteArray,
 ∃ n32 : Int,
 (
 Row w28 { block := b12, off := (0 : Nat) } (0 : Nat) [Value.int IntKind.i64 n29, Value.string s30, Value.string s31, Value.int IntKind.i64 n32]) ∧
 (
 WrRow w28 { block := b2, off := (0 : Nat) } (0 : Nat) [Value.int IntKind.i64 n29, Value.string s30, Value.string s31, Value.int IntKind.i64 n32]) ∧
 LetW (setRow w28 { block := b2, off := (0 : Nat) } (0 : Nat) [Value.int IntKind.i64 n29, Value.string s30, Value.string s31, Value.int IntKind.i64 n32]) fun w33 =>
 ∃ n34 : Int,
 ∃ s35 : ByteArray,
 ∃ s36 : ByteArray,
 ∃ n37 : Int,
 (
 Row w33 { block := b2, off := (0 : Nat) } (0 : Nat) [Value.int IntKind.i64 n34, Value.string s35, Value.string s36, Value.int IntKind.i64 n37]) ∧
 R (Ending.returned (Value.agg #[Value.int IntKind.i64 n34, Value.string s35, Value.string s36, Value.int IntKind.i64 n37])) w33)
theorem fop_ok (b1 : Nat) (w : World) (R : Ending → World → Prop) (h : fop b1 w R) : Ca Try.prog 76 #[Value.pointer (some { block := b1, off := (0 : Nat) })] w R :=
 Ca.of_fvc (c := bodyOf Try.f76) (by kernel_rfl) Try.func76 (by kernel_rfl) [] (Eq.mp (by kernel_rfl) h)

def fsame (n1 : Int) (n2 : Int) (n3 : Int) (n4 : Int) (n5 : Int) (n6 : Int) (n7 : Int) (n8 : Int) (s9 : ByteArray) (s10 : ByteArray) (n11 : Int) (n12 : Int) (s13 : ByteArray) (n14 : Int) (n15 : Int) (n16 : Int) (n17 : Int) (n18 : Int) (n19 : Int) (n20 : Int) (s21 : ByteArray) (s22 : ByteArray) (n23 : Int) (n24 : Int) (p25 : Option Addr) (k26 : Nat) (k27 : Nat) (n28 : Int) (n29 : Int) (n30 : Int) (n31 : Int) (n32 : Int) (n33 : Int) (n34 : Int) (n35 : Int) (n36 : Int) (n37 : Int) (n38 : Int) (n39 : Int) (s40 : ByteArray) (s41 : ByteArray) (n42 : Int) (n43 : Int) (s44 : ByteArray) (n45 : Int) (n46 : Int) (n47 : Int) (n48 : Int) (n49 : Int) (n50 : Int) (n51 : Int) (s52 : ByteArray) (s53 : ByteArray) (n54 : Int) (n55 : Int) (p56 : Option Addr) (k57 : Nat) (k58 : Nat) (n59 : Int) (n60 : Int) (n61 : Int) (n62 : Int) (w : World) (R : Ending → World → Prop) : Prop :=
 LetA (Obj.cells #[Value.int IntKind.i64 n1, Value.int IntKind.i64 n2, Value.int IntKind.i64 n3, Value.int IntKind.i64 n4, Value.int IntKind.i64 n5, Value.int IntKind.i64 n6, Value.int IntKind.i64 n7, Value.int IntKind.i64 n8, Value.string s9, Value.string s10, Value.int IntKind.i64 n11, Value.int IntKind.i64 n12, Value.string s13, Value.int IntKind.i64 n14, Value.int IntKind.i64 n15, Value.int IntKind.i64 n16, Value.int IntKind.i64 n17, Value.int IntKind.i64 n18, Value.int IntKind.i64 n19, Value.int IntKind.i64 n20, Value.string s21, Value.string s22, Value.int IntKind.i64 n23, Value.int IntKind.i64 n24, Value.slice p25 k26 k27, Value.int IntKind.i64 n28, Value.int IntKind.i64 n29, Value.int IntKind.i64 n30, Value.int IntKind.i64 n31] (58 : Nat)) w fun b63 w64 =>
 LetA (Obj.cells #[Value.int IntKind.i64 n32, Value.int IntKind.i64 n33, Value.int IntKind.i64 n34, Value.int IntKind.i64 n35, Value.int IntKind.i64 n36, Value.int IntKind.i64 n37, Value.int IntKind.i64 n38, Value.int IntKind.i64 n39, Value.string s40, Value.string s41, Value.int IntKind.i64 n42, Value.int IntKind.i64 n43, Value.string s44, Value.int IntKind.i64 n45, Value.int IntKind.i64 n46, Value.int IntKind.i64 n47, Value.int IntKind.i64 n48, Value.int IntKind.i64 n49, Value.int IntKind.i64 n50, Value.int IntKind.i64 n51, Value.string s52, Value.string s53, Value.int IntKind.i64 n54, Value.int IntKind.i64 n55, Value.slice p56 k57 k58, Value.int IntKind.i64 n59, Value.int IntKind.i64 n60, Value.int IntKind.i64 n61, Value.int IntKind.i64 n62] (58 : Nat)) w64 fun b65 w66 =>
 ∃ n67 : Int,
 ∃ p68 : Option Addr,
 ∃ k69 : Nat,
 ∃ k70 : Nat,
 ∃ n71 : Int,
 (
 Row w66 { block := b63, off := (23 : Nat) } (0 : Nat) [Value.int IntKind.i64 n67, Value.slice p68 k69 k70, Value.int IntKind.i64 n71]) ∧
 ∃ n72 : Int,
 ∃ p73 : Option Addr,
 ∃ k74 : Nat,
 ∃ k75 : Nat,
 ∃ n76 : Int,
 (
 Row w66 { block := b65, off := (23 : Nat) } (0 : Nat) [Value.int IntKind.i64 n72, Value.slice p73 k74 k75, Value.int IntKind.i64 n76]) ∧
 Ca Try.prog (40 : Nat) #[Value.agg #[Value.int IntKind.i64 n67, Value.slice p68 k69 k70, Value.int IntKind.i64 n71], Value.agg #[Value.int IntKind.i64 n72, Value.slice p73 k74 k75, Value.int IntKind.i64 n76]] w66 fun e77 w78 =>
 ∃ b79 : Bool,
 (
 e77 = Ending.returned (Value.bool b79)) ∧
 ∃ n80 : Int,
 (
 w78.cell? { block := b63, off := (0 : Nat) } = some (Value.int IntKind.i64 n80)) ∧
 ∃ n81 : Int,
 (
 w78.cell? { block := b65, off := (0 : Nat) } = some (Value.int IntKind.i64 n81)) ∧
 Br (n80 == n81)
 (
 ∃ n82 : Int,
 (
 w78.cell? { block := b63, off := (1 : Nat) } = some (Value.int IntKind.i64 n82)) ∧
 ∃ n83 : Int,
 (
 w78.cell? { block := b65, off := (1 : Nat) } = some (Value.int IntKind.i64 n83)) ∧
 Br (n82 == n83)
 (
 ∃ n84 : Int,
 (
 w78.cell? { block := b63, off := (2 : Nat) } = some (Value.int IntKind.i64 n84)) ∧
 ∃ n85 : Int,
 (
 w78.cell? { block := b65, off := (2 : Nat) } = some (Value.int IntKind.i64 n85)) ∧
 Br (n84 == n85)
 (
 ∃ n86 : Int,
 (
 w78.cell? { block := b63, off := (3 : Nat) } = some (Value.int IntKind.i64 n86)) ∧
 ∃ n87 : Int,
 (
 w78.cell? { block := b65, off := (3 : Nat) } = some (Value.int IntKind.i64 n87)) ∧
 Br (n86 == n87)
 (
 ∃ n88 : Int,
 (
 w78.cell? { block := b63, off := (4 : Nat) } = some (Value.int IntKind.i64 n88)) ∧
 ∃ n89 : Int,
 (
 w78.cell? { block := b65, off := (4 : Nat) } = some (Value.int IntKind.i64 n89)) ∧
 Br (n88 == n89)
 (
 ∃ n90 : Int,
 (
 w78.cell? { block := b63, off := (5 : Nat) } = some (Value.int IntKind.i64 n90)) ∧
 ∃ n91 : Int,
 (
 w78.cell? { block := b65, off := (5 : Nat) } = some (Value.int IntKind.i64 n91)) ∧
 Br (n90 == n91)
 (
 ∃ n92 : Int,
 (
 w78.cell? { block := b63, off := (6 : Nat) } = some (Value.int IntKind.i64 n92)) ∧
 ∃ n93 : Int,
 (
 w78.cell? { block := b65, off := (6 : Nat) } = some (Value.int IntKind.i64 n93)) ∧
 Br (b79)
 (
 Br (n92 == n93)
 (
 ∃ n94 : Int,
 ∃ s95 : ByteArray,
 ∃ s96 : ByteArray,
 ∃ n97 : Int,
 (
 Row w78 { block := b63, off := (7 : Nat) } (0 : Nat) [Value.int IntKind.i64 n94, Value.string s95, Value.string s96, Value.int IntKind.i64 n97]) ∧
 ∃ n98 : Int,
 ∃ s99 : ByteArray,
 ∃ s100 : ByteArray,
 ∃ n101 : Int,
 (
 Row w78 { block := b65, off := (7 : Nat) } (0 : Nat) [Value.int IntKind.i64 n98, Value.string s99, Value.string s100, Value.int IntKind.i64 n101]) ∧
 Br (n94 == n98 && (s95.toList == s99.toList && (s96.toList == s100.toList && (n97 == n101 && true))))
 (
 ∃ n102 : Int,
 ∃ s103 : ByteArray,
 ∃ n104 : Int,
 ∃ n105 : Int,
 (
 Row w78 { block := b63, off := (11 : Nat) } (0 : Nat) [Value.int IntKind.i64 n102, Value.string s103, Value.int IntKind.i64 n104, Value.int IntKind.i64 n105]) ∧
 ∃ n106 : Int,
 ∃ s107 : ByteArray,
 ∃ n108 : Int,
 ∃ n109 : Int,
 (
 Row w78 { block := b65, off := (11 : Nat) } (0 : Nat) [Value.int IntKind.i64 n106, Value.string s107, Value.int IntKind.i64 n108, Value.int IntKind.i64 n109]) ∧
 Br (n102 == n106 && (s103.toList == s107.toList && (n104 == n108 && (n105 == n109 && true))))
 (
 ∃ n110 : Int,
 (
 w78.cell? { block := b63, off := (15 : Nat) } = some (Value.int IntKind.i64 n110)) ∧
 ∃ n111 : Int,
 (
 w78.cell? { block := b65, off := (15 : Nat) } = some (Value.int IntKind.i64 n111)) ∧
 Br (n110 == n111)
 (
 ∃ n112 : Int,
 ∃ n113 : Int,
 ∃ n114 : Int,
 ∃ n115 : Int,
 ∃ s116 : ByteArray,
 ∃ s117 : ByteArray,
 ∃ n118 : Int,
 (
 Row w78 { block := b63, off := (16 : Nat) } (0 : Nat) [Value.int IntKind.i64 n112, Value.int IntKind.i64 n113, Value.int IntKind.i64 n114, Value.int IntKind.i64 n115, Value.string s116, Value.string s117, Value.int IntKind.i64 n118]) ∧
 ∃ n119 : Int,
 ∃ n120 : Int,
 ∃ n121 : Int,
 ∃ n122 : Int,
 ∃ s123 : ByteArray,
 ∃ s124 : ByteArray,
 ∃ n125 : Int,
 (
 Row w78 { block := b65, off := (16 : Nat) } (0 : Nat) [Value.int IntKind.i64 n119, Value.int IntKind.i64 n120, Value.int IntKind.i64 n121, Value.int IntKind.i64 n122, Value.string s123, Value.string s124, Value.int IntKind.i64 n125]) ∧
 Br (n112 == n119 && (n113 == n120 && (n114 == n121 && (n115 == n122 && (s116.toList == s123.toList && (s117.toList == s124.toList && (n118 == n125 && true))) && true))))
 (
 ∃ n126 : Int,
 (
 w78.cell? { block := b63, off := (26 : Nat) } = some (Value.int IntKind.i64 n126)) ∧
 ∃ n127 : Int,
 (
 w78.cell? { block := b65, off := (26 : Nat) } = some (Value.int IntKind.i64 n127)) ∧
 Br (n126 == n127)
 (
 ∃ n128 : Int,
 (
 w78.cell? { block := b63, off := (27 : Nat) } = some (Value.int IntKind.i64 n128)) ∧
 ∃ n129 : Int,
 (
 w78.cell? { block := b65, off := (27 : Nat) } = some (Value.int IntKind.i64 n129)) ∧
 Br (n128 == n129)
 (
 ∃ n130 : Int,
 (
 w78.cell? { block := b63, off := (28 : Nat) } = some (Value.int IntKind.i64 n130)) ∧
 ∃ n131 : Int,
 (
 w78.cell? { block := b65, off := (28 : Nat) } = some (Value.int IntKind.i64 n131)) ∧
 R (Ending.returned (Value.bool (n130 == n131))) w78)
 (
 R (Ending.returned (Value.bool false)) w78))
 (
 R (Ending.returned (Value.bool false)) w78))
 (
 R (Ending.returned (Value.bool false)) w78))
 (
 R (Ending.returned (Value.bool false)) w78))
 (
 R (Ending.returned (Value.bool false)) w78))
 (
 R (Ending.returned (Value.bool false)) w78))
 (
 R (Ending.returned (Value.bool false)) w78))
 (
 R (Ending.returned (Value.bool false)) w78))
 (
 Br (b79)
 (
 R (Ending.returned (Value.bool false)) w78)
 (
 R (Ending.returned (Value.bool false)) w78)))
 (
 Br (b79)
 (
 R (Ending.returned (Value.bool false)) w78)
 (
 R (Ending.returned (Value.bool false)) w78)))
 (
 Br (b79)
 (
 R (Ending.returned (Value.bool false)) w78)
 (
 R (Ending.returned (Value.bool false)) w78)))
 (
 Br (b79)
 (
 R (Ending.returned (Value.bool false)) w78)
 (
 R (Ending.returned (Value.bool false)) w78)))
 (
 Br (b79)
 (
 R (Ending.returned (Value.bool false)) w78)
 (
 R (Ending.returned (Value.bool false)) w78)))
 (
 Br (b79)
 (
 R (Ending.returned (Value.bool false)) w78)
 (
 R (Ending.returned (Value.bool false)) w78))
theorem fsame_ok (n1 : Int) (n2 : Int) (n3 : Int) (n4 : Int) (n5 : Int) (n6 : Int) (n7 : Int) (n8 : Int) (s9 : ByteArray) (s10 : ByteArray) (n11 : Int) (n12 : Int) (s13 : ByteArray) (n14 : Int) (n15 : Int) (n16 : Int) (n17 : Int) (n18 : Int) (n19 : Int) (n20 : Int) (s21 : ByteArray) (s22 : ByteArray) (n23 : Int) (n24 : Int) (p25 : Option Addr) (k26 : Nat) (k27 : Nat) (n28 : Int) (n29 : Int) (n30 : Int) (n31 : Int) (n32 : Int) (n33 : Int) (n34 : Int) (n35 : Int) (n36 : Int) (n37 : Int) (n38 : Int) (n39 : Int) (s40 : ByteArray) (s41 : ByteArray) (n42 : Int) (n43 : Int) (s44 : ByteArray) (n45 : Int) (n46 : Int) (n47 : Int) (n48 : Int) (n49 : Int) (n50 : Int) (n51 : Int) (s52 : ByteArray) (s53 : ByteArray) (n54 : Int) (n55 : Int) (p56 : Option Addr) (k57 : Nat) (k58 : Nat) (n59 : Int) (n60 : Int) (n61 : Int) (n62 : Int) (w : World) (R : Ending → World → Prop) (h : fsame n1 n2 n3 n4 n5 n6 n7 n8 s9 s10 n11 n12 s13 n14 n15 n16 n17 n18 n19 n20 s21 s22 n23 n24 p25 k26 k27 n28 n29 n30 n31 n32 n33 n34 n35 n36 n37 n38 n39 s40 s41 n42 n43 s44 n45 n46 n47 n48 n49 n50 n51 s52 s53 n54 n55 p56 k57 k58 n59 n60 n61 n62 w R) : Ca Try.prog 51 #[Value.agg #[Value.int IntKind.i64 n1, Value.int IntKind.i64 n2, Value.int IntKind.i64 n3, Value.int IntKind.i64 n4, Value.int IntKind.i64 n5, Value.int IntKind.i64 n6, Value.int IntKind.i64 n7, Value.int IntKind.i64 n8, Value.string s9, Value.string s10, Value.int IntKind.i64 n11, Value.int IntKind.i64 n12, Value.string s13, Value.int IntKind.i64 n14, Value.int IntKind.i64 n15, Value.int IntKind.i64 n16, Value.int IntKind.i64 n17, Value.int IntKind.i64 n18, Value.int IntKind.i64 n19, Value.int IntKind.i64 n20, Value.string s21, Value.string s22, Value.int IntKind.i64 n23, Value.int IntKind.i64 n24, Value.slice p25 k26 k27, Value.int IntKind.i64 n28, Value.int IntKind.i64 n29, Value.int IntKind.i64 n30, Value.int IntKind.i64 n31], Value.agg #[Value.int IntKind.i64 n32, Value.int IntKind.i64 n33, Value.int IntKind.i64 n34, Value.int IntKind.i64 n35, Value.int IntKind.i64 n36, Value.int IntKind.i64 n37, Value.int IntKind.i64 n38, Value.int IntKind.i64 n39, Value.string s40, Value.string s41, Value.int IntKind.i64 n42, Value.int IntKind.i64 n43, Value.string s44, Value.int IntKind.i64 n45, Value.int IntKind.i64 n46, Value.int IntKind.i64 n47, Value.int IntKind.i64 n48, Value.int IntKind.i64 n49, Value.int IntKind.i64 n50, Value.int IntKind.i64 n51, Value.string s52, Value.string s53, Value.int IntKind.i64 n54, Value.int IntKind.i64 n55, Value.slice p56 k57 k58, Value.int IntKind.i64 n59, Value.int IntKind.i64 n60, Value.int IntKind.i64 n61, Value.int IntKind.i64 n62]] w R :=
 Ca.of_fvc (c := bodyOf Try.f51) (by kernel_rfl) Try.func51 (by kernel_rfl) [] (Eq.mp (by kernel_rfl) h)

def rhas (n1 : Int) (w : World) (R : Ending → World → Prop) : Prop :=
 Br (n1 == (1 : Int))
 (
 R (Ending.returned (Value.string { data := #[(69 : UInt8), (67 : UInt8), (83 : UInt8), (84 : UInt8), (76 : UInt8), (68 : UInt8)] })) w)
 (
 Br (n1 == (2 : Int))
 (
 R (Ending.returned (Value.string { data := #[(67 : UInt8), (83 : UInt8), (84 : UInt8)] })) w)
 (
 Br (n1 == (3 : Int))
 (
 R (Ending.returned (Value.string { data := #[(69 : UInt8), (67 : UInt8), (83 : UInt8), (84 : UInt8), (82 : UInt8)] })) w)
 (
 Br (n1 == (4 : Int))
 (
 Br (n1 == (4 : Int))
 (
 R (Ending.returned (Value.string { data := #[(69 : UInt8)] })) w)
 (
 Br (n1 == (5 : Int))
 (
 R (Ending.returned (Value.string { data := #[(69 : UInt8), (73 : UInt8), (71 : UInt8), (72 : UInt8)] })) w)
 (
 Br (n1 == (6 : Int))
 (
 Br (n1 == (6 : Int))
 (
 R (Ending.returned (Value.string { data := #[(69 : UInt8), (73 : UInt8)] })) w)
 (
 R (Ending.returned (Value.string { data := #[] })) w))
 (
 Br (n1 == (9 : Int))
 (
 Br (n1 == (9 : Int))
 (
 R (Ending.returned (Value.string { data := #[(69 : UInt8), (73 : UInt8)] })) w)
 (
 R (Ending.returned (Value.string { data := #[] })) w))
 (
 Br (n1 == (10 : Int))
 (
 Br (n1 == (10 : Int))
 (
 R (Ending.returned (Value.string { data := #[(69 : UInt8), (73 : UInt8)] })) w)
 (
 R (Ending.returned (Value.string { data := #[] })) w))
 (
 Br (n1 == (11 : Int))
 (
 R (Ending.returned (Value.string { data := #[(69 : UInt8), (73 : UInt8)] })) w)
 (
 R (Ending.returned (Value.string { data := #[] })) w)))))))
 (
 Br (n1 == (12 : Int))
 (
 R (Ending.returned (Value.string { data := #[(69 : UInt8)] })) w)
 (
 Br (n1 == (5 : Int))
 (
 R (Ending.returned (Value.string { data := #[(69 : UInt8), (73 : UInt8), (71 : UInt8), (72 : UInt8)] })) w)
 (
 Br (n1 == (6 : Int))
 (
 Br (n1 == (6 : Int))
 (
 R (Ending.returned (Value.string { data := #[(69 : UInt8), (73 : UInt8)] })) w)
 (
 R (Ending.returned (Value.string { data := #[] })) w))
 (
 Br (n1 == (9 : Int))
 (
 Br (n1 == (9 : Int))
 (
 R (Ending.returned (Value.string { data := #[(69 : UInt8), (73 : UInt8)] })) w)
 (
 R (Ending.returned (Value.string { data := #[] })) w))
 (
 Br (n1 == (10 : Int))
 (
 Br (n1 == (10 : Int))
 (
 R (Ending.returned (Value.string { data := #[(69 : UInt8), (73 : UInt8)] })) w)
 (
 R (Ending.returned (Value.string { data := #[] })) w))
 (
 Br (n1 == (11 : Int))
 (
 R (Ending.returned (Value.string { data := #[(69 : UInt8), (73 : UInt8)] })) w)
 (
 R (Ending.returned (Value.string { data := #[] })) w))))))))))
theorem rhas_ok (n1 : Int) (w : World) (R : Ending → World → Prop) (h : rhas n1 w R) : Ca Try.prog 78 #[Value.int IntKind.i64 n1] w R :=
 Ca.of_fvc (c := bodyOf Try.f78) (by kernel_rfl) Try.func78 (by kernel_rfl) [] (Eq.mp (by kernel_rfl) h)

def rnumber (n1 : Int) (n2 : Int) (n3 : Int) (n4 : Int) (n5 : Int) (n6 : Int) (n7 : Int) (n8 : Int) (s9 : ByteArray) (s10 : ByteArray) (n11 : Int) (n12 : Int) (s13 : ByteArray) (n14 : Int) (n15 : Int) (n16 : Int) (n17 : Int) (n18 : Int) (n19 : Int) (n20 : Int) (s21 : ByteArray) (s22 : ByteArray) (n23 : Int) (n24 : Int) (p25 : Option Addr) (k26 : Nat) (k27 : Nat) (n28 : Int) (n29 : Int) (n30 : Int) (n31 : Int) (n32 : Int) (w : World) (R : Ending → World → Prop) : Prop :=
 LetA (Obj.cells #[Value.int IntKind.i64 n1, Value.int IntKind.i64 n2, Value.int IntKind.i64 n3, Value.int IntKind.i64 n4, Value.int IntKind.i64 n5, Value.int IntKind.i64 n6, Value.int IntKind.i64 n7, Value.int IntKind.i64 n8, Value.string s9, Value.string s10, Value.int IntKind.i64 n11, Value.int IntKind.i64 n12, Value.string s13, Value.int IntKind.i64 n14, Value.int IntKind.i64 n15, Value.int IntKind.i64 n16, Value.int IntKind.i64 n17, Value.int IntKind.i64 n18, Value.int IntKind.i64 n19, Value.int IntKind.i64 n20, Value.string s21, Value.string s22, Value.int IntKind.i64 n23, Value.int IntKind.i64 n24, Value.slice p25 k26 k27, Value.int IntKind.i64 n28, Value.int IntKind.i64 n29, Value.int IntKind.i64 n30, Value.int IntKind.i64 n31] (58 : Nat)) w fun b33 w34 =>
 Br (n32 == (69 : Int))
 (
 ∃ n35 : Int,
 (
 w34.cell? { block := b33, off := (1 : Nat) } = some (Value.int IntKind.i64 n35)) ∧
 R (Ending.returned (Value.int IntKind.i64 n35)) w34)
 (
 Br (n32 == (67 : Int))
 (
 ∃ n36 : Int,
 (
 w34.cell? { block := b33, off := (2 : Nat) } = some (Value.int IntKind.i64 n36)) ∧
 R (Ending.returned (Value.int IntKind.i64 n36)) w34)
 (
 Br (n32 == (83 : Int))
 (
 ∃ n37 : Int,
 (
 w34.cell? { block := b33, off := (3 : Nat) } = some (Value.int IntKind.i64 n37)) ∧
 R (Ending.returned (Value.int IntKind.i64 n37)) w34)
 (
 Br (n32 == (84 : Int))
 (
 ∃ n38 : Int,
 (
 w34.cell? { block := b33, off := (4 : Nat) } = some (Value.int IntKind.i64 n38)) ∧
 R (Ending.returned (Value.int IntKind.i64 n38)) w34)
 (
 Br (n32 == (76 : Int))
 (
 ∃ n39 : Int,
 (
 w34.cell? { block := b33, off := (5 : Nat) } = some (Value.int IntKind.i64 n39)) ∧
 R (Ending.returned (Value.int IntKind.i64 n39)) w34)
 (
 Br (n32 == (68 : Int))
 (
 ∃ n40 : Int,
 (
 w34.cell? { block := b33, off := (6 : Nat) } = some (Value.int IntKind.i64 n40)) ∧
 R (Ending.returned (Value.int IntKind.i64 n40)) w34)
 (
 Br (n32 == (82 : Int))
 (
 ∃ n41 : Int,
 (
 w34.cell? { block := b33, off := (15 : Nat) } = some (Value.int IntKind.i64 n41)) ∧
 R (Ending.returned (Value.int IntKind.i64 n41)) w34)
 (
 Br (n32 == (73 : Int))
 (
 ∃ n42 : Int,
 (
 w34.cell? { block := b33, off := (26 : Nat) } = some (Value.int IntKind.i64 n42)) ∧
 R (Ending.returned (Value.int IntKind.i64 n42)) w34)
 (
 Br (n32 == (71 : Int))
 (
 ∃ n43 : Int,
 (
 w34.cell? { block := b33, off := (27 : Nat) } = some (Value.int IntKind.i64 n43)) ∧
 R (Ending.returned (Value.int IntKind.i64 n43)) w34)
 (
 ∃ n44 : Int,
 (
 w34.cell? { block := b33, off := (28 : Nat) } = some (Value.int IntKind.i64 n44)) ∧
 R (Ending.returned (Value.int IntKind.i64 n44)) w34)))))))))
theorem rnumber_ok (n1 : Int) (n2 : Int) (n3 : Int) (n4 : Int) (n5 : Int) (n6 : Int) (n7 : Int) (n8 : Int) (s9 : ByteArray) (s10 : ByteArray) (n11 : Int) (n12 : Int) (s13 : ByteArray) (n14 : Int) (n15 : Int) (n16 : Int) (n17 : Int) (n18 : Int) (n19 : Int) (n20 : Int) (s21 : ByteArray) (s22 : ByteArray) (n23 : Int) (n24 : Int) (p25 : Option Addr) (k26 : Nat) (k27 : Nat) (n28 : Int) (n29 : Int) (n30 : Int) (n31 : Int) (n32 : Int) (w : World) (R : Ending → World → Prop) (h : rnumber n1 n2 n3 n4 n5 n6 n7 n8 s9 s10 n11 n12 s13 n14 n15 n16 n17 n18 n19 n20 s21 s22 n23 n24 p25 k26 k27 n28 n29 n30 n31 n32 w R) : Ca Try.prog 101 #[Value.agg #[Value.int IntKind.i64 n1, Value.int IntKind.i64 n2, Value.int IntKind.i64 n3, Value.int IntKind.i64 n4, Value.int IntKind.i64 n5, Value.int IntKind.i64 n6, Value.int IntKind.i64 n7, Value.int IntKind.i64 n8, Value.string s9, Value.string s10, Value.int IntKind.i64 n11, Value.int IntKind.i64 n12, Value.string s13, Value.int IntKind.i64 n14, Value.int IntKind.i64 n15, Value.int IntKind.i64 n16, Value.int IntKind.i64 n17, Value.int IntKind.i64 n18, Value.int IntKind.i64 n19, Value.int IntKind.i64 n20, Value.string s21, Value.string s22, Value.int IntKind.i64 n23, Value.int IntKind.i64 n24, Value.slice p25 k26 k27, Value.int IntKind.i64 n28, Value.int IntKind.i64 n29, Value.int IntKind.i64 n30, Value.int IntKind.i64 n31], Value.int IntKind.u8 n32] w R :=
 Ca.of_fvc (c := bodyOf Try.f101) (by kernel_rfl) Try.func101 (by kernel_rfl) [] (Eq.mp (by kernel_rfl) h)

def rwithf (n1 : Int) (n2 : Int) (n3 : Int) (n4 : Int) (n5 : Int) (n6 : Int) (n7 : Int) (n8 : Int) (s9 : ByteArray) (s10 : ByteArray) (n11 : Int) (n12 : Int) (s13 : ByteArray) (n14 : Int) (n15 : Int) (n16 : Int) (n17 : Int) (n18 : Int) (n19 : Int) (n20 : Int) (s21 : ByteArray) (s22 : ByteArray) (n23 : Int) (n24 : Int) (p25 : Option Addr) (k26 : Nat) (k27 : Nat) (n28 : Int) (n29 : Int) (n30 : Int) (n31 : Int) (n32 : Int) (n33 : Int) (w : World) (R : Ending → World → Prop) : Prop :=
 LetA (Obj.cells #[Value.int IntKind.i64 n1, Value.int IntKind.i64 n2, Value.int IntKind.i64 n3, Value.int IntKind.i64 n4, Value.int IntKind.i64 n5, Value.int IntKind.i64 n6, Value.int IntKind.i64 n7, Value.int IntKind.i64 n8, Value.string s9, Value.string s10, Value.int IntKind.i64 n11, Value.int IntKind.i64 n12, Value.string s13, Value.int IntKind.i64 n14, Value.int IntKind.i64 n15, Value.int IntKind.i64 n16, Value.int IntKind.i64 n17, Value.int IntKind.i64 n18, Value.int IntKind.i64 n19, Value.int IntKind.i64 n20, Value.string s21, Value.string s22, Value.int IntKind.i64 n23, Value.int IntKind.i64 n24, Value.slice p25 k26 k27, Value.int IntKind.i64 n28, Value.int IntKind.i64 n29, Value.int IntKind.i64 n30, Value.int IntKind.i64 n31] (58 : Nat)) w fun b34 w35 =>
 LetA (Obj.cells #[Value.int IntKind.i64 (0 : Int), Value.int IntKind.i64 (0 : Int), Value.int IntKind.i64 (0 : Int), Value.int IntKind.i64 (0 : Int), Value.int IntKind.i64 (0 : Int), Value.int IntKind.i64 (0 : Int), Value.int IntKind.i64 (0 : Int), Value.int IntKind.i64 (0 : Int), Value.string { data := #[] }, Value.string { data := #[] }, Value.int IntKind.i64 (0 : Int), Value.int IntKind.i64 (0 : Int), Value.string { data := #[] }, Value.int IntKind.i64 (0 : Int), Value.int IntKind.i64 (0 : Int), Value.int IntKind.i64 (0 : Int), Value.int IntKind.i64 (0 : Int), Value.int IntKind.i64 (0 : Int), Value.int IntKind.i64 (0 : Int), Value.int IntKind.i64 (0 : Int), Value.string { data := #[] }, Value.string { data := #[] }, Value.int IntKind.i64 (0 : Int), Value.int IntKind.i64 (0 : Int), Value.slice none (0 : Nat) (0 : Nat), Value.int IntKind.i64 (0 : Int), Value.int IntKind.i64 (0 : Int), Value.int IntKind.i64 (0 : Int), Value.int IntKind.i64 (0 : Int)] (58 : Nat)) w35 fun b36 w37 =>
 Br (n32 == (69 : Int))
 (
 (
 Wr w37 { block := b34, off := (1 : Nat) }) ∧
 LetW (w37.setCell { block := b34, off := (1 : Nat) } (Value.int IntKind.i64 n33)) fun w38 =>
 ∃ n39 : Int,
 ∃ n40 : Int,
 ∃ n41 : Int,
 ∃ n42 : Int,
 ∃ n43 : Int,
 ∃ n44 : Int,
 ∃ n45 : Int,
 ∃ n46 : Int,
 ∃ s47 : ByteArray,
 ∃ s48 : ByteArray,
 ∃ n49 : Int,
 ∃ n50 : Int,
 ∃ s51 : ByteArray,
 ∃ n52 : Int,
 ∃ n53 : Int,
 ∃ n54 : Int,
 ∃ n55 : Int,
 ∃ n56 : Int,
 ∃ n57 : Int,
 ∃ n58 : Int,
 ∃ s59 : ByteArray,
 ∃ s60 : ByteArray,
 ∃ n61 : Int,
 ∃ n62 : Int,
 ∃ p63 : Option Addr,
 ∃ k64 : Nat,
 ∃ k65 : Nat,
 ∃ n66 : Int,
 ∃ n67 : Int,
 ∃ n68 : Int,
 ∃ n69 : Int,
 (
 Row w38 { block := b34, off := (0 : Nat) } (0 : Nat) [Value.int IntKind.i64 n39, Value.int IntKind.i64 n40, Value.int IntKind.i64 n41, Value.int IntKind.i64 n42, Value.int IntKind.i64 n43, Value.int IntKind.i64 n44, Value.int IntKind.i64 n45, Value.int IntKind.i64 n46, Value.string s47, Value.string s48, Value.int IntKind.i64 n49, Value.int IntKind.i64 n50, Value.string s51, Value.int IntKind.i64 n52, Value.int IntKind.i64 n53, Value.int IntKind.i64 n54, Value.int IntKind.i64 n55, Value.int IntKind.i64 n56, Value.int IntKind.i64 n57, Value.int IntKind.i64 n58, Value.string s59, Value.string s60, Value.int IntKind.i64 n61, Value.int IntKind.i64 n62, Value.slice p63 k64 k65, Value.int IntKind.i64 n66, Value.int IntKind.i64 n67, Value.int IntKind.i64 n68, Value.int IntKind.i64 n69]) ∧
 (
 WrRow w38 { block := b36, off := (0 : Nat) } (0 : Nat) [Value.int IntKind.i64 n39, Value.int IntKind.i64 n40, Value.int IntKind.i64 n41, Value.int IntKind.i64 n42, Value.int IntKind.i64 n43, Value.int IntKind.i64 n44, Value.int IntKind.i64 n45, Value.int IntKind.i64 n46, Value.string s47, Value.string s48, Value.int IntKind.i64 n49, Value.int IntKind.i64 n50, Value.string s51, Value.int IntKind.i64 n52, Value.int IntKind.i64 n53, Value.int IntKind.i64 n54, Value.int IntKind.i64 n55, Value.int IntKind.i64 n56, Value.int IntKind.i64 n57, Value.int IntKind.i64 n58, Value.string s59, Value.string s60, Value.int IntKind.i64 n61, Value.int IntKind.i64 n62, Value.slice p63 k64 k65, Value.int IntKind.i64 n66, Value.int IntKind.i64 n67, Value.int IntKind.i64 n68, Value.int IntKind.i64 n69]) ∧
 LetW (setRow w38 { block := b36, off := (0 : Nat) } (0 : Nat) [Value.int IntKind.i64 n39, Value.int IntKind.i64 n40, Value.int IntKind.i64 n41, Value.int IntKind.i64 n42, Value.int IntKind.i64 n43, Value.int IntKind.i64 n44, Value.int IntKind.i64 n45, Value.int IntKind.i64 n46, Value.string s47, Value.string s48, Value.int IntKind.i64 n49, Value.int IntKind.i64 n50, Value.string s51, Value.int IntKind.i64 n52, Value.int IntKind.i64 n53, Value.int IntKind.i64 n54, Value.int IntKind.i64 n55, Value.int IntKind.i64 n56, Value.int IntKind.i64 n57, Value.int IntKind.i64 n58, Value.string s59, Value.string s60, Value.int IntKind.i64 n61, Value.int IntKind.i64 n62, Value.slice p63 k64 k65, Value.int IntKind.i64 n66, Value.int IntKind.i64 n67, Value.int IntKind.i64 n68, Value.int IntKind.i64 n69]) fun w70 =>
 ∃ n71 : Int,
 ∃ n72 : Int,
 ∃ n73 : Int,
 ∃ n74 : Int,
 ∃ n75 : Int,
 ∃ n76 : Int,
 ∃ n77 : Int,
 ∃ n78 : Int,
 ∃ s79 : ByteArray,
 ∃ s80 : ByteArray,
 ∃ n81 : Int,
 ∃ n82 : Int,
 ∃ s83 : ByteArray,
 ∃ n84 : Int,
 ∃ n85 : Int,
 ∃ n86 : Int,
 ∃ n87 : Int,
 ∃ n88 : Int,
 ∃ n89 : Int,
 ∃ n90 : Int,
 ∃ s91 : ByteArray,
 ∃ s92 : ByteArray,
 ∃ n93 : Int,
 ∃ n94 : Int,
 ∃ p95 : Option Addr,
 ∃ k96 : Nat,
 ∃ k97 : Nat,
 ∃ n98 : Int,
 ∃ n99 : Int,
 ∃ n100 : Int,
 ∃ n101 : Int,
 (
 Row w70 { block := b36, off := (0 : Nat) } (0 : Nat) [Value.int IntKind.i64 n71, Value.int IntKind.i64 n72, Value.int IntKind.i64 n73, Value.int IntKind.i64 n74, Value.int IntKind.i64 n75, Value.int IntKind.i64 n76, Value.int IntKind.i64 n77, Value.int IntKind.i64 n78, Value.string s79, Value.string s80, Value.int IntKind.i64 n81, Value.int IntKind.i64 n82, Value.string s83, Value.int IntKind.i64 n84, Value.int IntKind.i64 n85, Value.int IntKind.i64 n86, Value.int IntKind.i64 n87, Value.int IntKind.i64 n88, Value.int IntKind.i64 n89, Value.int IntKind.i64 n90, Value.string s91, Value.string s92, Value.int IntKind.i64 n93, Value.int IntKind.i64 n94, Value.slice p95 k96 k97, Value.int IntKind.i64 n98, Value.int IntKind.i64 n99, Value.int IntKind.i64 n100, Value.int IntKind.i64 n101]) ∧
 R (Ending.returned (Value.agg #[Value.int IntKind.i64 n71, Value.int IntKind.i64 n72, Value.int IntKind.i64 n73, Value.int IntKind.i64 n74, Value.int IntKind.i64 n75, Value.int IntKind.i64 n76, Value.int IntKind.i64 n77, Value.int IntKind.i64 n78, Value.string s79, Value.string s80, Value.int IntKind.i64 n81, Value.int IntKind.i64 n82, Value.string s83, Value.int IntKind.i64 n84, Value.int IntKind.i64 n85, Value.int IntKind.i64 n86, Value.int IntKind.i64 n87, Value.int IntKind.i64 n88, Value.int IntKind.i64 n89, Value.int IntKind.i64 n90, Value.string s91, Value.string s92, Value.int IntKind.i64 n93, Value.int IntKind.i64 n94, Value.slice p95 k96 k97, Value.int IntKind.i64 n98, Value.int IntKind.i64 n99, Value.int IntKind.i64 n100, Value.int IntKind.i64 n101])) w70)
 (
 Br (n32 == (67 : Int))
 (
 (
 Wr w37 { block := b34, off := (2 : Nat) }) ∧
 LetW (w37.setCell { block := b34, off := (2 : Nat) } (Value.int IntKind.i64 n33)) fun w102 =>
 ∃ n103 : Int,
 ∃ n104 : Int,
 ∃ n105 : Int,
 ∃ n106 : Int,
 ∃ n107 : Int,
 ∃ n108 : Int,
 ∃ n109 : Int,
 ∃ n110 : Int,
 ∃ s111 : ByteArray,
 ∃ s112 : ByteArray,
 ∃ n113 : Int,
 ∃ n114 : Int,
 ∃ s115 : ByteArray,
 ∃ n116 : Int,
 ∃ n117 : Int,
 ∃ n118 : Int,
 ∃ n119 : Int,
 ∃ n120 : Int,
 ∃ n121 : Int,
 ∃ n122 : Int,
 ∃ s123 : ByteArray,
 ∃ s124 : ByteArray,
 ∃ n125 : Int,
 ∃ n126 : Int,
 ∃ p127 : Option Addr,
 ∃ k128 : Nat,
 ∃ k129 : Nat,
 ∃ n130 : Int,
 ∃ n131 : Int,
 ∃ n132 : Int,
 ∃ n133 : Int,
 (
 Row w102 { block := b34, off := (0 : Nat) } (0 : Nat) [Value.int IntKind.i64 n103, Value.int IntKind.i64 n104, Value.int IntKind.i64 n105, Value.int IntKind.i64 n106, Value.int IntKind.i64 n107, Value.int IntKind.i64 n108, Value.int IntKind.i64 n109, Value.int IntKind.i64 n110, Value.string s111, Value.string s112, Value.int IntKind.i64 n113, Value.int IntKind.i64 n114, Value.string s115, Value.int IntKind.i64 n116, Value.int IntKind.i64 n117, Value.int IntKind.i64 n118, Value.int IntKind.i64 n119, Value.int IntKind.i64 n120, Value.int IntKind.i64 n121, Value.int IntKind.i64 n122, Value.string s123, Value.string s124, Value.int IntKind.i64 n125, Value.int IntKind.i64 n126, Value.slice p127 k128 k129, Value.int IntKind.i64 n130, Value.int IntKind.i64 n131, Value.int IntKind.i64 n132, Value.int IntKind.i64 n133]) ∧
 (
 WrRow w102 { block := b36, off := (0 : Nat) } (0 : Nat) [Value.int IntKind.i64 n103, Value.int IntKind.i64 n104, Value.int IntKind.i64 n105, Value.int IntKind.i64 n106, Value.int IntKind.i64 n107, Value.int IntKind.i64 n108, Value.int IntKind.i64 n109, Value.int IntKind.i64 n110, Value.string s111, Value.string s112, Value.int IntKind.i64 n113, Value.int IntKind.i64 n114, Value.string s115, Value.int IntKind.i64 n116, Value.int IntKind.i64 n117, Value.int IntKind.i64 n118, Value.int IntKind.i64 n119, Value.int IntKind.i64 n120, Value.int IntKind.i64 n121, Value.int IntKind.i64 n122, Value.string s123, Value.string s124, Value.int IntKind.i64 n125, Value.int IntKind.i64 n126, Value.slice p127 k128 k129, Value.int IntKind.i64 n130, Value.int IntKind.i64 n131, Value.int IntKind.i64 n132, Value.int IntKind.i64 n133]) ∧
 LetW (setRow w102 { block := b36, off := (0 : Nat) } (0 : Nat) [Value.int IntKind.i64 n103, Value.int IntKind.i64 n104, Value.int IntKind.i64 n105, Value.int IntKind.i64 n106, Value.int IntKind.i64 n107, Value.int IntKind.i64 n108, Value.int IntKind.i64 n109, Value.int IntKind.i64 n110, Value.string s111, Value.string s112, Value.int IntKind.i64 n113, Value.int IntKind.i64 n114, Value.string s115, Value.int IntKind.i64 n116, Value.int IntKind.i64 n117, Value.int IntKind.i64 n118, Value.int IntKind.i64 n119, Value.int IntKind.i64 n120, Value.int IntKind.i64 n121, Value.int IntKind.i64 n122, Value.string s123, Value.string s124, Value.int IntKind.i64 n125, Value.int IntKind.i64 n126, Value.slice p127 k128 k129, Value.int IntKind.i64 n130, Value.int IntKind.i64 n131, Value.int IntKind.i64 n132, Value.int IntKind.i64 n133]) fun w134 =>
 ∃ n135 : Int,
 ∃ n136 : Int,
 ∃ n137 : Int,
 ∃ n138 : Int,
 ∃ n139 : Int,
 ∃ n140 : Int,
 ∃ n141 : Int,
 ∃ n142 : Int,
 ∃ s143 : ByteArray,
 ∃ s144 : ByteArray,
 ∃ n145 : Int,
 ∃ n146 : Int,
 ∃ s147 : ByteArray,
 ∃ n148 : Int,
 ∃ n149 : Int,
 ∃ n150 : Int,
 ∃ n151 : Int,
 ∃ n152 : Int,
 ∃ n153 : Int,
 ∃ n154 : Int,
 ∃ s155 : ByteArray,
 ∃ s156 : ByteArray,
 ∃ n157 : Int,
 ∃ n158 : Int,
 ∃ p159 : Option Addr,
 ∃ k160 : Nat,
 ∃ k161 : Nat,
 ∃ n162 : Int,
 ∃ n163 : Int,
 ∃ n164 : Int,
 ∃ n165 : Int,
 (
 Row w134 { block := b36, off := (0 : Nat) } (0 : Nat) [Value.int IntKind.i64 n135, Value.int IntKind.i64 n136, Value.int IntKind.i64 n137, Value.int IntKind.i64 n138, Value.int IntKind.i64 n139, Value.int IntKind.i64 n140, Value.int IntKind.i64 n141, Value.int IntKind.i64 n142, Value.string s143, Value.string s144, Value.int IntKind.i64 n145, Value.int IntKind.i64 n146, Value.string s147, Value.int IntKind.i64 n148, Value.int IntKind.i64 n149, Value.int IntKind.i64 n150, Value.int IntKind.i64 n151, Value.int IntKind.i64 n152, Value.int IntKind.i64 n153, Value.int IntKind.i64 n154, Value.string s155, Value.string s156, Value.int IntKind.i64 n157, Value.int IntKind.i64 n158, Value.slice p159 k160 k161, Value.int IntKind.i64 n162, Value.int IntKind.i64 n163, Value.int IntKind.i64 n164, Value.int IntKind.i64 n165]) ∧
 R (Ending.returned (Value.agg #[Value.int IntKind.i64 n135, Value.int IntKind.i64 n136, Value.int IntKind.i64 n137, Value.int IntKind.i64 n138, Value.int IntKind.i64 n139, Value.int IntKind.i64 n140, Value.int IntKind.i64 n141, Value.int IntKind.i64 n142, Value.string s143, Value.string s144, Value.int IntKind.i64 n145, Value.int IntKind.i64 n146, Value.string s147, Value.int IntKind.i64 n148, Value.int IntKind.i64 n149, Value.int IntKind.i64 n150, Value.int IntKind.i64 n151, Value.int IntKind.i64 n152, Value.int IntKind.i64 n153, Value.int IntKind.i64 n154, Value.string s155, Value.string s156, Value.int IntKind.i64 n157, Value.int IntKind.i64 n158, Value.slice p159 k160 k161, Value.int IntKind.i64 n162, Value.int IntKind.i64 n163, Value.int IntKind.i64 n164, Value.int IntKind.i64 n165])) w134)
 (
 Br (n32 == (83 : Int))
 (
 (
 Wr w37 { block := b34, off := (3 : Nat) }) ∧
 LetW (w37.setCell { block := b34, off := (3 : Nat) } (Value.int IntKind.i64 n33)) fun w166 =>
 ∃ n167 : Int,
 ∃ n168 : Int,
 ∃ n169 : Int,
 ∃ n170 : Int,
 ∃ n171 : Int,
 ∃ n172 : Int,
 ∃ n173 : Int,
 ∃ n174 : Int,
 ∃ s175 : ByteArray,
 ∃ s176 : ByteArray,
 ∃ n177 : Int,
 ∃ n178 : Int,
 ∃ s179 : ByteArray,
 ∃ n180 : Int,
 ∃ n181 : Int,
 ∃ n182 : Int,
 ∃ n183 : Int,
 ∃ n184 : Int,
 ∃ n185 : Int,
 ∃ n186 : Int,
 ∃ s187 : ByteArray,
 ∃ s188 : ByteArray,
 ∃ n189 : Int,
 ∃ n190 : Int,
 ∃ p191 : Option Addr,
 ∃ k192 : Nat,
 ∃ k193 : Nat,
 ∃ n194 : Int,
 ∃ n195 : Int,
 ∃ n196 : Int,
 ∃ n197 : Int,
 (
 Row w166 { block := b34, off := (0 : Nat) } (0 : Nat) [Value.int IntKind.i64 n167, Value.int IntKind.i64 n168, Value.int IntKind.i64 n169, Value.int IntKind.i64 n170, Value.int IntKind.i64 n171, Value.int IntKind.i64 n172, Value.int IntKind.i64 n173, Value.int IntKind.i64 n174, Value.string s175, Value.string s176, Value.int IntKind.i64 n177, Value.int IntKind.i64 n178, Value.string s179, Value.int IntKind.i64 n180, Value.int IntKind.i64 n181, Value.int IntKind.i64 n182, Value.int IntKind.i64 n183, Value.int IntKind.i64 n184, Value.int IntKind.i64 n185, Value.int IntKind.i64 n186, Value.string s187, Value.string s188, Value.int IntKind.i64 n189, Value.int IntKind.i64 n190, Value.slice p191 k192 k193, Value.int IntKind.i64 n194, Value.int IntKind.i64 n195, Value.int IntKind.i64 n196, Value.int IntKind.i64 n197]) ∧
 (
 WrRow w166 { block := b36, off := (0 : Nat) } (0 : Nat) [Value.int IntKind.i64 n167, Value.int IntKind.i64 n168, Value.int IntKind.i64 n169, Value.int IntKind.i64 n170, Value.int IntKind.i64 n171, Value.int IntKind.i64 n172, Value.int IntKind.i64 n173, Value.int IntKind.i64 n174, Value.string s175, Value.string s176, Value.int IntKind.i64 n177, Value.int IntKind.i64 n178, Value.string s179, Value.int IntKind.i64 n180, Value.int IntKind.i64 n181, Value.int IntKind.i64 n182, Value.int IntKind.i64 n183, Value.int IntKind.i64 n184, Value.int IntKind.i64 n185, Value.int IntKind.i64 n186, Value.string s187, Value.string s188, Value.int IntKind.i64 n189, Value.int IntKind.i64 n190, Value.slice p191 k192 k193, Value.int IntKind.i64 n194, Value.int IntKind.i64 n195, Value.int IntKind.i64 n196, Value.int IntKind.i64 n197]) ∧
 LetW (setRow w166 { block := b36, off := (0 : Nat) } (0 : Nat) [Value.int IntKind.i64 n167, Value.int IntKind.i64 n168, Value.int IntKind.i64 n169, Value.int IntKind.i64 n170, Value.int IntKind.i64 n171, Value.int IntKind.i64 n172, Value.int IntKind.i64 n173, Value.int IntKind.i64 n174, Value.string s175, Value.string s176, Value.int IntKind.i64 n177, Value.int IntKind.i64 n178, Value.string s179, Value.int IntKind.i64 n180, Value.int IntKind.i64 n181, Value.int IntKind.i64 n182, Value.int IntKind.i64 n183, Value.int IntKind.i64 n184, Value.int IntKind.i64 n185, Value.int IntKind.i64 n186, Value.string s187, Value.string s188, Value.int IntKind.i64 n189, Value.int IntKind.i64 n190, Value.slice p191 k192 k193, Value.int IntKind.i64 n194, Value.int IntKind.i64 n195, Value.int IntKind.i64 n196, Value.int IntKind.i64 n197]) fun w198 =>
 ∃ n199 : Int,
 ∃ n200 : Int,
 ∃ n201 : Int,
 ∃ n202 : Int,
 ∃ n203 : Int,
 ∃ n204 : Int,
 ∃ n205 : Int,
 ∃ n206 : Int,
 ∃ s207 : ByteArray,
 ∃ s208 : ByteArray,
 ∃ n209 : Int,
 ∃ n210 : Int,
 ∃ s211 : ByteArray,
 ∃ n212 : Int,
 ∃ n213 : Int,
 ∃ n214 : Int,
 ∃ n215 : Int,
 ∃ n216 : Int,
 ∃ n217 : Int,
 ∃ n218 : Int,
 ∃ s219 : ByteArray,
 ∃ s220 : ByteArray,
 ∃ n221 : Int,
 ∃ n222 : Int,
 ∃ p223 : Option Addr,
 ∃ k224 : Nat,
 ∃ k225 : Nat,
 ∃ n226 : Int,
 ∃ n227 : Int,
 ∃ n228 : Int,
 ∃ n229 : Int,
 (
 Row w198 { block := b36, off := (0 : Nat) } (0 : Nat) [Value.int IntKind.i64 n199, Value.int IntKind.i64 n200, Value.int IntKind.i64 n201, Value.int IntKind.i64 n202, Value.int IntKind.i64 n203, Value.int IntKind.i64 n204, Value.int IntKind.i64 n205, Value.int IntKind.i64 n206, Value.string s207, Value.string s208, Value.int IntKind.i64 n209, Value.int IntKind.i64 n210, Value.string s211, Value.int IntKind.i64 n212, Value.int IntKind.i64 n213, Value.int IntKind.i64 n214, Value.int IntKind.i64 n215, Value.int IntKind.i64 n216, Value.int IntKind.i64 n217, Value.int IntKind.i64 n218, Value.string s219, Value.string s220, Value.int IntKind.i64 n221, Value.int IntKind.i64 n222, Value.slice p223 k224 k225, Value.int IntKind.i64 n226, Value.int IntKind.i64 n227, Value.int IntKind.i64 n228, Value.int IntKind.i64 n229]) ∧
 R (Ending.returned (Value.agg #[Value.int IntKind.i64 n199, Value.int IntKind.i64 n200, Value.int IntKind.i64 n201, Value.int IntKind.i64 n202, Value.int IntKind.i64 n203, Value.int IntKind.i64 n204, Value.int IntKind.i64 n205, Value.int IntKind.i64 n206, Value.string s207, Value.string s208, Value.int IntKind.i64 n209, Value.int IntKind.i64 n210, Value.string s211, Value.int IntKind.i64 n212, Value.int IntKind.i64 n213, Value.int IntKind.i64 n214, Value.int IntKind.i64 n215, Value.int IntKind.i64 n216, Value.int IntKind.i64 n217, Value.int IntKind.i64 n218, Value.string s219, Value.string s220, Value.int IntKind.i64 n221, Value.int IntKind.i64 n222, Value.slice p223 k224 k225, Value.int IntKind.i64 n226, Value.int IntKind.i64 n227, Value.int IntKind.i64 n228, Value.int IntKind.i64 n229])) w198)
 (
 Br (n32 == (84 : Int))
 (
 (
 Wr w37 { block := b34, off := (4 : Nat) }) ∧
 LetW (w37.setCell { block := b34, off := (4 : Nat) } (Value.int IntKind.i64 n33)) fun w230 =>
 ∃ n231 : Int,
 ∃ n232 : Int,
 ∃ n233 : Int,
 ∃ n234 : Int,
 ∃ n235 : Int,
 ∃ n236 : Int,
 ∃ n237 : Int,
 ∃ n238 : Int,
 ∃ s239 : ByteArray,
 ∃ s240 : ByteArray,
 ∃ n241 : Int,
 ∃ n242 : Int,
 ∃ s243 : ByteArray,
 ∃ n244 : Int,
 ∃ n245 : Int,
 ∃ n246 : Int,
 ∃ n247 : Int,
 ∃ n248 : Int,
 ∃ n249 : Int,
 ∃ n250 : Int,
 ∃ s251 : ByteArray,
 ∃ s252 : ByteArray,
 ∃ n253 : Int,
 ∃ n254 : Int,
 ∃ p255 : Option Addr,
 ∃ k256 : Nat,
 ∃ k257 : Nat,
 ∃ n258 : Int,
 ∃ n259 : Int,
 ∃ n260 : Int,
 ∃ n261 : Int,
 (
 Row w230 { block := b34, off := (0 : Nat) } (0 : Nat) [Value.int IntKind.i64 n231, Value.int IntKind.i64 n232, Value.int IntKind.i64 n233, Value.int IntKind.i64 n234, Value.int IntKind.i64 n235, Value.int IntKind.i64 n236, Value.int IntKind.i64 n237, Value.int IntKind.i64 n238, Value.string s239, Value.string s240, Value.int IntKind.i64 n241, Value.int IntKind.i64 n242, Value.string s243, Value.int IntKind.i64 n244, Value.int IntKind.i64 n245, Value.int IntKind.i64 n246, Value.int IntKind.i64 n247, Value.int IntKind.i64 n248, Value.int IntKind.i64 n249, Value.int IntKind.i64 n250, Value.string s251, Value.string s252, Value.int IntKind.i64 n253, Value.int IntKind.i64 n254, Value.slice p255 k256 k257, Value.int IntKind.i64 n258, Value.int IntKind.i64 n259, Value.int IntKind.i64 n260, Value.int IntKind.i64 n261]) ∧
 (
 WrRow w230 { block := b36, off := (0 : Nat) } (0 : Nat) [Value.int IntKind.i64 n231, Value.int IntKind.i64 n232, Value.int IntKind.i64 n233, Value.int IntKind.i64 n234, Value.int IntKind.i64 n235, Value.int IntKind.i64 n236, Value.int IntKind.i64 n237, Value.int IntKind.i64 n238, Value.string s239, Value.string s240, Value.int IntKind.i64 n241, Value.int IntKind.i64 n242, Value.string s243, Value.int IntKind.i64 n244, Value.int IntKind.i64 n245, Value.int IntKind.i64 n246, Value.int IntKind.i64 n247, Value.int IntKind.i64 n248, Value.int IntKind.i64 n249, Value.int IntKind.i64 n250, Value.string s251, Value.string s252, Value.int IntKind.i64 n253, Value.int IntKind.i64 n254, Value.slice p255 k256 k257, Value.int IntKind.i64 n258, Value.int IntKind.i64 n259, Value.int IntKind.i64 n260, Value.int IntKind.i64 n261]) ∧
 LetW (setRow w230 { block := b36, off := (0 : Nat) } (0 : Nat) [Value.int IntKind.i64 n231, Value.int IntKind.i64 n232, Value.int IntKind.i64 n233, Value.int IntKind.i64 n234, Value.int IntKind.i64 n235, Value.int IntKind.i64 n236, Value.int IntKind.i64 n237, Value.int IntKind.i64 n238, Value.string s239, Value.string s240, Value.int IntKind.i64 n241, Value.int IntKind.i64 n242, Value.string s243, Value.int IntKind.i64 n244, Value.int IntKind.i64 n245, Value.int IntKind.i64 n246, Value.int IntKind.i64 n247, Value.int IntKind.i64 n248, Value.int IntKind.i64 n249, Value.int IntKind.i64 n250, Value.string s251, Value.string s252, Value.int IntKind.i64 n253, Value.int IntKind.i64 n254, Value.slice p255 k256 k257, Value.int IntKind.i64 n258, Value.int IntKind.i64 n259, Value.int IntKind.i64 n260, Value.int IntKind.i64 n261]) fun w262 =>
 ∃ n263 : Int,
 ∃ n264 : Int,
 ∃ n265 : Int,
 ∃ n266 : Int,
 ∃ n267 : Int,
 ∃ n268 : Int,
 ∃ n269 : Int,
 ∃ n270 : Int,
 ∃ s271 : ByteArray,
 ∃ s272 : ByteArray,
 ∃ n273 : Int,
 ∃ n274 : Int,
 ∃ s275 : ByteArray,
 ∃ n276 : Int,
 ∃ n277 : Int,
 ∃ n278 : Int,
 ∃ n279 : Int,
 ∃ n280 : Int,
 ∃ n281 : Int,
 ∃ n282 : Int,
 ∃ s283 : ByteArray,
 ∃ s284 : ByteArray,
 ∃ n285 : Int,
 ∃ n286 : Int,
 ∃ p287 : Option Addr,
 ∃ k288 : Nat,
 ∃ k289 : Nat,
 ∃ n290 : Int,
 ∃ n291 : Int,
 ∃ n292 : Int,
 ∃ n293 : Int,
 (
 Row w262 { block := b36, off := (0 : Nat) } (0 : Nat) [Value.int IntKind.i64 n263, Value.int IntKind.i64 n264, Value.int IntKind.i64 n265, Value.int IntKind.i64 n266, Value.int IntKind.i64 n267, Value.int IntKind.i64 n268, Value.int IntKind.i64 n269, Value.int IntKind.i64 n270, Value.string s271, Value.string s272, Value.int IntKind.i64 n273, Value.int IntKind.i64 n274, Value.string s275, Value.int IntKind.i64 n276, Value.int IntKind.i64 n277, Value.int IntKind.i64 n278, Value.int IntKind.i64 n279, Value.int IntKind.i64 n280, Value.int IntKind.i64 n281, Value.int IntKind.i64 n282, Value.string s283, Value.string s284, Value.int IntKind.i64 n285, Value.int IntKind.i64 n286, Value.slice p287 k288 k289, Value.int IntKind.i64 n290, Value.int IntKind.i64 n291, Value.int IntKind.i64 n292, Value.int IntKind.i64 n293]) ∧
 R (Ending.returned (Value.agg #[Value.int IntKind.i64 n263, Value.int IntKind.i64 n264, Value.int IntKind.i64 n265, Value.int IntKind.i64 n266, Value.int IntKind.i64 n267, Value.int IntKind.i64 n268, Value.int IntKind.i64 n269, Value.int IntKind.i64 n270, Value.string s271, Value.string s272, Value.int IntKind.i64 n273, Value.int IntKind.i64 n274, Value.string s275, Value.int IntKind.i64 n276, Value.int IntKind.i64 n277, Value.int IntKind.i64 n278, Value.int IntKind.i64 n279, Value.int IntKind.i64 n280, Value.int IntKind.i64 n281, Value.int IntKind.i64 n282, Value.string s283, Value.string s284, Value.int IntKind.i64 n285, Value.int IntKind.i64 n286, Value.slice p287 k288 k289, Value.int IntKind.i64 n290, Value.int IntKind.i64 n291, Value.int IntKind.i64 n292, Value.int IntKind.i64 n293])) w262)
 (
 Br (n32 == (76 : Int))
 (
 (
 Wr w37 { block := b34, off := (5 : Nat) }) ∧
 LetW (w37.setCell { block := b34, off := (5 : Nat) } (Value.int IntKind.i64 n33)) fun w294 =>
 ∃ n295 : Int,
 ∃ n296 : Int,
 ∃ n297 : Int,
 ∃ n298 : Int,
 ∃ n299 : Int,
 ∃ n300 : Int,
 ∃ n301 : Int,
 ∃ n302 : Int,
 ∃ s303 : ByteArray,
 ∃ s304 : ByteArray,
 ∃ n305 : Int,
 ∃ n306 : Int,
 ∃ s307 : ByteArray,
 ∃ n308 : Int,
 ∃ n309 : Int,
 ∃ n310 : Int,
 ∃ n311 : Int,
 ∃ n312 : Int,
 ∃ n313 : Int,
 ∃ n314 : Int,
 ∃ s315 : ByteArray,
 ∃ s316 : ByteArray,
 ∃ n317 : Int,
 ∃ n318 : Int,
 ∃ p319 : Option Addr,
 ∃ k320 : Nat,
 ∃ k321 : Nat,
 ∃ n322 : Int,
 ∃ n323 : Int,
 ∃ n324 : Int,
 ∃ n325 : Int,
 (
 Row w294 { block := b34, off := (0 : Nat) } (0 : Nat) [Value.int IntKind.i64 n295, Value.int IntKind.i64 n296, Value.int IntKind.i64 n297, Value.int IntKind.i64 n298, Value.int IntKind.i64 n299, Value.int IntKind.i64 n300, Value.int IntKind.i64 n301, Value.int IntKind.i64 n302, Value.string s303, Value.string s304, Value.int IntKind.i64 n305, Value.int IntKind.i64 n306, Value.string s307, Value.int IntKind.i64 n308, Value.int IntKind.i64 n309, Value.int IntKind.i64 n310, Value.int IntKind.i64 n311, Value.int IntKind.i64 n312, Value.int IntKind.i64 n313, Value.int IntKind.i64 n314, Value.string s315, Value.string s316, Value.int IntKind.i64 n317, Value.int IntKind.i64 n318, Value.slice p319 k320 k321, Value.int IntKind.i64 n322, Value.int IntKind.i64 n323, Value.int IntKind.i64 n324, Value.int IntKind.i64 n325]) ∧
 (
 WrRow w294 { block := b36, off := (0 : Nat) } (0 : Nat) [Value.int IntKind.i64 n295, Value.int IntKind.i64 n296, Value.int IntKind.i64 n297, Value.int IntKind.i64 n298, Value.int IntKind.i64 n299, Value.int IntKind.i64 n300, Value.int IntKind.i64 n301, Value.int IntKind.i64 n302, Value.string s303, Value.string s304, Value.int IntKind.i64 n305, Value.int IntKind.i64 n306, Value.string s307, Value.int IntKind.i64 n308, Value.int IntKind.i64 n309, Value.int IntKind.i64 n310, Value.int IntKind.i64 n311, Value.int IntKind.i64 n312, Value.int IntKind.i64 n313, Value.int IntKind.i64 n314, Value.string s315, Value.string s316, Value.int IntKind.i64 n317, Value.int IntKind.i64 n318, Value.slice p319 k320 k321, Value.int IntKind.i64 n322, Value.int IntKind.i64 n323, Value.int IntKind.i64 n324, Value.int IntKind.i64 n325]) ∧
 LetW (setRow w294 { block := b36, off := (0 : Nat) } (0 : Nat) [Value.int IntKind.i64 n295, Value.int IntKind.i64 n296, Value.int IntKind.i64 n297, Value.int IntKind.i64 n298, Value.int IntKind.i64 n299, Value.int IntKind.i64 n300, Value.int IntKind.i64 n301, Value.int IntKind.i64 n302, Value.string s303, Value.string s304, Value.int IntKind.i64 n305, Value.int IntKind.i64 n306, Value.string s307, Value.int IntKind.i64 n308, Value.int IntKind.i64 n309, Value.int IntKind.i64 n310, Value.int IntKind.i64 n311, Value.int IntKind.i64 n312, Value.int IntKind.i64 n313, Value.int IntKind.i64 n314, Value.string s315, Value.string s316, Value.int IntKind.i64 n317, Value.int IntKind.i64 n318, Value.slice p319 k320 k321, Value.int IntKind.i64 n322, Value.int IntKind.i64 n323, Value.int IntKind.i64 n324, Value.int IntKind.i64 n325]) fun w326 =>
 ∃ n327 : Int,
 ∃ n328 : Int,
 ∃ n329 : Int,
 ∃ n330 : Int,
 ∃ n331 : Int,
 ∃ n332 : Int,
 ∃ n333 : Int,
 ∃ n334 : Int,
 ∃ s335 : ByteArray,
 ∃ s336 : ByteArray,
 ∃ n337 : Int,
 ∃ n338 : Int,
 ∃ s339 : ByteArray,
 ∃ n340 : Int,
 ∃ n341 : Int,
 ∃ n342 : Int,
 ∃ n343 : Int,
 ∃ n344 : Int,
 ∃ n345 : Int,
 ∃ n346 : Int,
 ∃ s347 : ByteArray,
 ∃ s348 : ByteArray,
 ∃ n349 : Int,
 ∃ n350 : Int,
 ∃ p351 : Option Addr,
 ∃ k352 : Nat,
 ∃ k353 : Nat,
 ∃ n354 : Int,
 ∃ n355 : Int,
 ∃ n356 : Int,
 ∃ n357 : Int,
 (
 Row w326 { block := b36, off := (0 : Nat) } (0 : Nat) [Value.int IntKind.i64 n327, Value.int IntKind.i64 n328, Value.int IntKind.i64 n329, Value.int IntKind.i64 n330, Value.int IntKind.i64 n331, Value.int IntKind.i64 n332, Value.int IntKind.i64 n333, Value.int IntKind.i64 n334, Value.string s335, Value.string s336, Value.int IntKind.i64 n337, Value.int IntKind.i64 n338, Value.string s339, Value.int IntKind.i64 n340, Value.int IntKind.i64 n341, Value.int IntKind.i64 n342, Value.int IntKind.i64 n343, Value.int IntKind.i64 n344, Value.int IntKind.i64 n345, Value.int IntKind.i64 n346, Value.string s347, Value.string s348, Value.int IntKind.i64 n349, Value.int IntKind.i64 n350, Value.slice p351 k352 k353, Value.int IntKind.i64 n354, Value.int IntKind.i64 n355, Value.int IntKind.i64 n356, Value.int IntKind.i64 n357]) ∧
 R (Ending.returned (Value.agg #[Value.int IntKind.i64 n327, Value.int IntKind.i64 n328, Value.int IntKind.i64 n329, Value.int IntKind.i64 n330, Value.int IntKind.i64 n331, Value.int IntKind.i64 n332, Value.int IntKind.i64 n333, Value.int IntKind.i64 n334, Value.string s335, Value.string s336, Value.int IntKind.i64 n337, Value.int IntKind.i64 n338, Value.string s339, Value.int IntKind.i64 n340, Value.int IntKind.i64 n341, Value.int IntKind.i64 n342, Value.int IntKind.i64 n343, Value.int IntKind.i64 n344, Value.int IntKind.i64 n345, Value.int IntKind.i64 n346, Value.string s347, Value.string s348, Value.int IntKind.i64 n349, Value.int IntKind.i64 n350, Value.slice p351 k352 k353, Value.int IntKind.i64 n354, Value.int IntKind.i64 n355, Value.int IntKind.i64 n356, Value.int IntKind.i64 n357])) w326)
 (
 Br (n32 == (68 : Int))
 (
 (
 Wr w37 { block := b34, off := (6 : Nat) }) ∧
 LetW (w37.setCell { block := b34, off := (6 : Nat) } (Value.int IntKind.i64 n33)) fun w358 =>
 ∃ n359 : Int,
 ∃ n360 : Int,
 ∃ n361 : Int,
 ∃ n362 : Int,
 ∃ n363 : Int,
 ∃ n364 : Int,
 ∃ n365 : Int,
 ∃ n366 : Int,
 ∃ s367 : ByteArray,
 ∃ s368 : ByteArray,
 ∃ n369 : Int,
 ∃ n370 : Int,
 ∃ s371 : ByteArray,
 ∃ n372 : Int,
 ∃ n373 : Int,
 ∃ n374 : Int,
 ∃ n375 : Int,
 ∃ n376 : Int,
 ∃ n377 : Int,
 ∃ n378 : Int,
 ∃ s379 : ByteArray,
 ∃ s380 : ByteArray,
 ∃ n381 : Int,
 ∃ n382 : Int,
 ∃ p383 : Option Addr,
 ∃ k384 : Nat,
 ∃ k385 : Nat,
 ∃ n386 : Int,
 ∃ n387 : Int,
 ∃ n388 : Int,
 ∃ n389 : Int,
 (
 Row w358 { block := b34, off := (0 : Nat) } (0 : Nat) [Value.int IntKind.i64 n359, Value.int IntKind.i64 n360, Value.int IntKind.i64 n361, Value.int IntKind.i64 n362, Value.int IntKind.i64 n363, Value.int IntKind.i64 n364, Value.int IntKind.i64 n365, Value.int IntKind.i64 n366, Value.string s367, Value.string s368, Value.int IntKind.i64 n369, Value.int IntKind.i64 n370, Value.string s371, Value.int IntKind.i64 n372, Value.int IntKind.i64 n373, Value.int IntKind.i64 n374, Value.int IntKind.i64 n375, Value.int IntKind.i64 n376, Value.int IntKind.i64 n377, Value.int IntKind.i64 n378, Value.string s379, Value.string s380, Value.int IntKind.i64 n381, Value.int IntKind.i64 n382, Value.slice p383 k384 k385, Value.int IntKind.i64 n386, Value.int IntKind.i64 n387, Value.int IntKind.i64 n388, Value.int IntKind.i64 n389]) ∧
 (
 WrRow w358 { block := b36, off := (0 : Nat) } (0 : Nat) [Value.int IntKind.i64 n359, Value.int IntKind.i64 n360, Value.int IntKind.i64 n361, Value.int IntKind.i64 n362, Value.int IntKind.i64 n363, Value.int IntKind.i64 n364, Value.int IntKind.i64 n365, Value.int IntKind.i64 n366, Value.string s367, Value.string s368, Value.int IntKind.i64 n369, Value.int IntKind.i64 n370, Value.string s371, Value.int IntKind.i64 n372, Value.int IntKind.i64 n373, Value.int IntKind.i64 n374, Value.int IntKind.i64 n375, Value.int IntKind.i64 n376, Value.int IntKind.i64 n377, Value.int IntKind.i64 n378, Value.string s379, Value.string s380, Value.int IntKind.i64 n381, Value.int IntKind.i64 n382, Value.slice p383 k384 k385, Value.int IntKind.i64 n386, Value.int IntKind.i64 n387, Value.int IntKind.i64 n388, Value.int IntKind.i64 n389]) ∧
 LetW (setRow w358 { block := b36, off := (0 : Nat) } (0 : Nat) [Value.int IntKind.i64 n359, Value.int IntKind.i64 n360, Value.int IntKind.i64 n361, Value.int IntKind.i64 n362, Value.int IntKind.i64 n363, Value.int IntKind.i64 n364, Value.int IntKind.i64 n365, Value.int IntKind.i64 n366, Value.string s367, Value.string s368, Value.int IntKind.i64 n369, Value.int IntKind.i64 n370, Value.string s371, Value.int IntKind.i64 n372, Value.int IntKind.i64 n373, Value.int IntKind.i64 n374, Value.int IntKind.i64 n375, Value.int IntKind.i64 n376, Value.int IntKind.i64 n377, Value.int IntKind.i64 n378, Value.string s379, Value.string s380, Value.int IntKind.i64 n381, Value.int IntKind.i64 n382, Value.slice p383 k384 k385, Value.int IntKind.i64 n386, Value.int IntKind.i64 n387, Value.int IntKind.i64 n388, Value.int IntKind.i64 n389]) fun w390 =>
 ∃ n391 : Int,
 ∃ n392 : Int,
 ∃ n393 : Int,
 ∃ n394 : Int,
 ∃ n395 : Int,
 ∃ n396 : Int,
 ∃ n397 : Int,
 ∃ n398 : Int,
 ∃ s399 : ByteArray,
 ∃ s400 : ByteArray,
 ∃ n401 : Int,
 ∃ n402 : Int,
 ∃ s403 : ByteArray,
 ∃ n404 : Int,
 ∃ n405 : Int,
 ∃ n406 : Int,
 ∃ n407 : Int,
 ∃ n408 : Int,
 ∃ n409 : Int,
 ∃ n410 : Int,
 ∃ s411 : ByteArray,
 ∃ s412 : ByteArray,
 ∃ n413 : Int,
 ∃ n414 : Int,
 ∃ p415 : Option Addr,
 ∃ k416 : Nat,
 ∃ k417 : Nat,
 ∃ n418 : Int,
 ∃ n419 : Int,
 ∃ n420 : Int,
 ∃ n421 : Int,
 (
 Row w390 { block := b36, off := (0 : Nat) } (0 : Nat) [Value.int IntKind.i64 n391, Value.int IntKind.i64 n392, Value.int IntKind.i64 n393, Value.int IntKind.i64 n394, Value.int IntKind.i64 n395, Value.int IntKind.i64 n396, Value.int IntKind.i64 n397, Value.int IntKind.i64 n398, Value.string s399, Value.string s400, Value.int IntKind.i64 n401, Value.int IntKind.i64 n402, Value.string s403, Value.int IntKind.i64 n404, Value.int IntKind.i64 n405, Value.int IntKind.i64 n406, Value.int IntKind.i64 n407, Value.int IntKind.i64 n408, Value.int IntKind.i64 n409, Value.int IntKind.i64 n410, Value.string s411, Value.string s412, Value.int IntKind.i64 n413, Value.int IntKind.i64 n414, Value.slice p415 k416 k417, Value.int IntKind.i64 n418, Value.int IntKind.i64 n419, Value.int IntKind.i64 n420, Value.int IntKind.i64 n421]) ∧
 R (Ending.returned (Value.agg #[Value.int IntKind.i64 n391, Value.int IntKind.i64 n392, Value.int IntKind.i64 n393, Value.int IntKind.i64 n394, Value.int IntKind.i64 n395, Value.int IntKind.i64 n396, Value.int IntKind.i64 n397, Value.int IntKind.i64 n398, Value.string s399, Value.string s400, Value.int IntKind.i64 n401, Value.int IntKind.i64 n402, Value.string s403, Value.int IntKind.i64 n404, Value.int IntKind.i64 n405, Value.int IntKind.i64 n406, Value.int IntKind.i64 n407, Value.int IntKind.i64 n408, Value.int IntKind.i64 n409, Value.int IntKind.i64 n410, Value.string s411, Value.string s412, Value.int IntKind.i64 n413, Value.int IntKind.i64 n414, Value.slice p415 k416 k417, Value.int IntKind.i64 n418, Value.int IntKind.i64 n419, Value.int IntKind.i64 n420, Value.int IntKind.i64 n421])) w390)
 (
 Br (n32 == (82 : Int))
 (
 (
 Wr w37 { block := b34, off := (15 : Nat) }) ∧
 LetW (w37.setCell { block := b34, off := (15 : Nat) } (Value.int IntKind.i64 n33)) fun w422 =>
 ∃ n423 : Int,
 ∃ n424 : Int,
 ∃ n425 : Int,
 ∃ n426 : Int,
 ∃ n427 : Int,
 ∃ n428 : Int,
 ∃ n429 : Int,
 ∃ n430 : Int,
 ∃ s431 : ByteArray,
 ∃ s432 : ByteArray,
 ∃ n433 : Int,
 ∃ n434 : Int,
 ∃ s435 : ByteArray,
 ∃ n436 : Int,
 ∃ n437 : Int,
 ∃ n438 : Int,
 ∃ n439 : Int,
 ∃ n440 : Int,
 ∃ n441 : Int,
 ∃ n442 : Int,
 ∃ s443 : ByteArray,
 ∃ s444 : ByteArray,
 ∃ n445 : Int,
 ∃ n446 : Int,
 ∃ p447 : Option Addr,
 ∃ k448 : Nat,
 ∃ k449 : Nat,
 ∃ n450 : Int,
 ∃ n451 : Int,
 ∃ n452 : Int,
 ∃ n453 : Int,
 (
 Row w422 { block := b34, off := (0 : Nat) } (0 : Nat) [Value.int IntKind.i64 n423, Value.int IntKind.i64 n424, Value.int IntKind.i64 n425, Value.int IntKind.i64 n426, Value.int IntKind.i64 n427, Value.int IntKind.i64 n428, Value.int IntKind.i64 n429, Value.int IntKind.i64 n430, Value.string s431, Value.string s432, Value.int IntKind.i64 n433, Value.int IntKind.i64 n434, Value.string s435, Value.int IntKind.i64 n436, Value.int IntKind.i64 n437, Value.int IntKind.i64 n438, Value.int IntKind.i64 n439, Value.int IntKind.i64 n440, Value.int IntKind.i64 n441, Value.int IntKind.i64 n442, Value.string s443, Value.string s444, Value.int IntKind.i64 n445, Value.int IntKind.i64 n446, Value.slice p447 k448 k449, Value.int IntKind.i64 n450, Value.int IntKind.i64 n451, Value.int IntKind.i64 n452, Value.int IntKind.i64 n453]) ∧
 (
 WrRow w422 { block := b36, off := (0 : Nat) } (0 : Nat) [Value.int IntKind.i64 n423, Value.int IntKind.i64 n424, Value.int IntKind.i64 n425, Value.int IntKind.i64 n426, Value.int IntKind.i64 n427, Value.int IntKind.i64 n428, Value.int IntKind.i64 n429, Value.int IntKind.i64 n430, Value.string s431, Value.string s432, Value.int IntKind.i64 n433, Value.int IntKind.i64 n434, Value.string s435, Value.int IntKind.i64 n436, Value.int IntKind.i64 n437, Value.int IntKind.i64 n438, Value.int IntKind.i64 n439, Value.int IntKind.i64 n440, Value.int IntKind.i64 n441, Value.int IntKind.i64 n442, Value.string s443, Value.string s444, Value.int IntKind.i64 n445, Value.int IntKind.i64 n446, Value.slice p447 k448 k449, Value.int IntKind.i64 n450, Value.int IntKind.i64 n451, Value.int IntKind.i64 n452, Value.int IntKind.i64 n453]) ∧
 LetW (setRow w422 { block := b36, off := (0 : Nat) } (0 : Nat) [Value.int IntKind.i64 n423, Value.int IntKind.i64 n424, Value.int IntKind.i64 n425, Value.int IntKind.i64 n426, Value.int IntKind.i64 n427, Value.int IntKind.i64 n428, Value.int IntKind.i64 n429, Value.int IntKind.i64 n430, Value.string s431, Value.string s432, Value.int IntKind.i64 n433, Value.int IntKind.i64 n434, Value.string s435, Value.int IntKind.i64 n436, Value.int IntKind.i64 n437, Value.int IntKind.i64 n438, Value.int IntKind.i64 n439, Value.int IntKind.i64 n440, Value.int IntKind.i64 n441, Value.int IntKind.i64 n442, Value.string s443, Value.string s444, Value.int IntKind.i64 n445, Value.int IntKind.i64 n446, Value.slice p447 k448 k449, Value.int IntKind.i64 n450, Value.int IntKind.i64 n451, Value.int IntKind.i64 n452, Value.int IntKind.i64 n453]) fun w454 =>
 ∃ n455 : Int,
 ∃ n456 : Int,
 ∃ n457 : Int,
 ∃ n458 : Int,
 ∃ n459 : Int,
 ∃ n460 : Int,
 ∃ n461 : Int,
 ∃ n462 : Int,
 ∃ s463 : ByteArray,
 ∃ s464 : ByteArray,
 ∃ n465 : Int,
 ∃ n466 : Int,
 ∃ s467 : ByteArray,
 ∃ n468 : Int,
 ∃ n469 : Int,
 ∃ n470 : Int,
 ∃ n471 : Int,
 ∃ n472 : Int,
 ∃ n473 : Int,
 ∃ n474 : Int,
 ∃ s475 : ByteArray,
 ∃ s476 : ByteArray,
 ∃ n477 : Int,
 ∃ n478 : Int,
 ∃ p479 : Option Addr,
 ∃ k480 : Nat,
 ∃ k481 : Nat,
 ∃ n482 : Int,
 ∃ n483 : Int,
 ∃ n484 : Int,
 ∃ n485 : Int,
 (
 Row w454 { block := b36, off := (0 : Nat) } (0 : Nat) [Value.int IntKind.i64 n455, Value.int IntKind.i64 n456, Value.int IntKind.i64 n457, Value.int IntKind.i64 n458, Value.int IntKind.i64 n459, Value.int IntKind.i64 n460, Value.int IntKind.i64 n461, Value.int IntKind.i64 n462, Value.string s463, Value.string s464, Value.int IntKind.i64 n465, Value.int IntKind.i64 n466, Value.string s467, Value.int IntKind.i64 n468, Value.int IntKind.i64 n469, Value.int IntKind.i64 n470, Value.int IntKind.i64 n471, Value.int IntKind.i64 n472, Value.int IntKind.i64 n473, Value.int IntKind.i64 n474, Value.string s475, Value.string s476, Value.int IntKind.i64 n477, Value.int IntKind.i64 n478, Value.slice p479 k480 k481, Value.int IntKind.i64 n482, Value.int IntKind.i64 n483, Value.int IntKind.i64 n484, Value.int IntKind.i64 n485]) ∧
 R (Ending.returned (Value.agg #[Value.int IntKind.i64 n455, Value.int IntKind.i64 n456, Value.int IntKind.i64 n457, Value.int IntKind.i64 n458, Value.int IntKind.i64 n459, Value.int IntKind.i64 n460, Value.int IntKind.i64 n461, Value.int IntKind.i64 n462, Value.string s463, Value.string s464, Value.int IntKind.i64 n465, Value.int IntKind.i64 n466, Value.string s467, Value.int IntKind.i64 n468, Value.int IntKind.i64 n469, Value.int IntKind.i64 n470, Value.int IntKind.i64 n471, Value.int IntKind.i64 n472, Value.int IntKind.i64 n473, Value.int IntKind.i64 n474, Value.string s475, Value.string s476, Value.int IntKind.i64 n477, Value.int IntKind.i64 n478, Value.slice p479 k480 k481, Value.int IntKind.i64 n482, Value.int IntKind.i64 n483, Value.int IntKind.i64 n484, Value.int IntKind.i64 n485])) w454)
 (
 Br (n32 == (73 : Int))
 (
 (
 Wr w37 { block := b34, off := (26 : Nat) }) ∧
 LetW (w37.setCell { block := b34, off := (26 : Nat) } (Value.int IntKind.i64 n33)) fun w486 =>
 ∃ n487 : Int,
 ∃ n488 : Int,
 ∃ n489 : Int,
 ∃ n490 : Int,
 ∃ n491 : Int,
 ∃ n492 : Int,
 ∃ n493 : Int,
 ∃ n494 : Int,
 ∃ s495 : ByteArray,
 ∃ s496 : ByteArray,
 ∃ n497 : Int,
 ∃ n498 : Int,
 ∃ s499 : ByteArray,
 ∃ n500 : Int,
 ∃ n501 : Int,
 ∃ n502 : Int,
 ∃ n503 : Int,
 ∃ n504 : Int,
 ∃ n505 : Int,
 ∃ n506 : Int,
 ∃ s507 : ByteArray,
 ∃ s508 : ByteArray,
 ∃ n509 : Int,
 ∃ n510 : Int,
 ∃ p511 : Option Addr,
 ∃ k512 : Nat,
 ∃ k513 : Nat,
 ∃ n514 : Int,
 ∃ n515 : Int,
 ∃ n516 : Int,
 ∃ n517 : Int,
 (
 Row w486 { block := b34, off := (0 : Nat) } (0 : Nat) [Value.int IntKind.i64 n487, Value.int IntKind.i64 n488, Value.int IntKind.i64 n489, Value.int IntKind.i64 n490, Value.int IntKind.i64 n491, Value.int IntKind.i64 n492, Value.int IntKind.i64 n493, Value.int IntKind.i64 n494, Value.string s495, Value.string s496, Value.int IntKind.i64 n497, Value.int IntKind.i64 n498, Value.string s499, Value.int IntKind.i64 n500, Value.int IntKind.i64 n501, Value.int IntKind.i64 n502, Value.int IntKind.i64 n503, Value.int IntKind.i64 n504, Value.int IntKind.i64 n505, Value.int IntKind.i64 n506, Value.string s507, Value.string s508, Value.int IntKind.i64 n509, Value.int IntKind.i64 n510, Value.slice p511 k512 k513, Value.int IntKind.i64 n514, Value.int IntKind.i64 n515, Value.int IntKind.i64 n516, Value.int IntKind.i64 n517]) ∧
 (
 WrRow w486 { block := b36, off := (0 : Nat) } (0 : Nat) [Value.int IntKind.i64 n487, Value.int IntKind.i64 n488, Value.int IntKind.i64 n489, Value.int IntKind.i64 n490, Value.int IntKind.i64 n491, Value.int IntKind.i64 n492, Value.int IntKind.i64 n493, Value.int IntKind.i64 n494, Value.string s495, Value.string s496, Value.int IntKind.i64 n497, Value.int IntKind.i64 n498, Value.string s499, Value.int IntKind.i64 n500, Value.int IntKind.i64 n501, Value.int IntKind.i64 n502, Value.int IntKind.i64 n503, Value.int IntKind.i64 n504, Value.int IntKind.i64 n505, Value.int IntKind.i64 n506, Value.string s507, Value.string s508, Value.int IntKind.i64 n509, Value.int IntKind.i64 n510, Value.slice p511 k512 k513, Value.int IntKind.i64 n514, Value.int IntKind.i64 n515, Value.int IntKind.i64 n516, Value.int IntKind.i64 n517]) ∧
 LetW (setRow w486 { block := b36, off := (0 : Nat) } (0 : Nat) [Value.int IntKind.i64 n487, Value.int IntKind.i64 n488, Value.int IntKind.i64 n489, Value.int IntKind.i64 n490, Value.int IntKind.i64 n491, Value.int IntKind.i64 n492, Value.int IntKind.i64 n493, Value.int IntKind.i64 n494, Value.string s495, Value.string s496, Value.int IntKind.i64 n497, Value.int IntKind.i64 n498, Value.string s499, Value.int IntKind.i64 n500, Value.int IntKind.i64 n501, Value.int IntKind.i64 n502, Value.int IntKind.i64 n503, Value.int IntKind.i64 n504, Value.int IntKind.i64 n505, Value.int IntKind.i64 n506, Value.string s507, Value.string s508, Value.int IntKind.i64 n509, Value.int IntKind.i64 n510, Value.slice p511 k512 k513, Value.int IntKind.i64 n514, Value.int IntKind.i64 n515, Value.int IntKind.i64 n516, Value.int IntKind.i64 n517]) fun w518 =>
 ∃ n519 : Int,
 ∃ n520 : Int,
 ∃ n521 : Int,
 ∃ n522 : Int,
 ∃ n523 : Int,
 ∃ n524 : Int,
 ∃ n525 : Int,
 ∃ n526 : Int,
 ∃ s527 : ByteArray,
 ∃ s528 : ByteArray,
 ∃ n529 : Int,
 ∃ n530 : Int,
 ∃ s531 : ByteArray,
 ∃ n532 : Int,
 ∃ n533 : Int,
 ∃ n534 : Int,
 ∃ n535 : Int,
 ∃ n536 : Int,
 ∃ n537 : Int,
 ∃ n538 : Int,
 ∃ s539 : ByteArray,
 ∃ s540 : ByteArray,
 ∃ n541 : Int,
 ∃ n542 : Int,
 ∃ p543 : Option Addr,
 ∃ k544 : Nat,
 ∃ k545 : Nat,
 ∃ n546 : Int,
 ∃ n547 : Int,
 ∃ n548 : Int,
 ∃ n549 : Int,
 (
 Row w518 { block := b36, off := (0 : Nat) } (0 : Nat) [Value.int IntKind.i64 n519, Value.int IntKind.i64 n520, Value.int IntKind.i64 n521, Value.int IntKind.i64 n522, Value.int IntKind.i64 n523, Value.int IntKind.i64 n524, Value.int IntKind.i64 n525, Value.int IntKind.i64 n526, Value.string s527, Value.string s528, Value.int IntKind.i64 n529, Value.int IntKind.i64 n530, Value.string s531, Value.int IntKind.i64 n532, Value.int IntKind.i64 n533, Value.int IntKind.i64 n534, Value.int IntKind.i64 n535, Value.int IntKind.i64 n536, Value.int IntKind.i64 n537, Value.int IntKind.i64 n538, Value.string s539, Value.string s540, Value.int IntKind.i64 n541, Value.int IntKind.i64 n542, Value.slice p543 k544 k545, Value.int IntKind.i64 n546, Value.int IntKind.i64 n547, Value.int IntKind.i64 n548, Value.int IntKind.i64 n549]) ∧
 R (Ending.returned (Value.agg #[Value.int IntKind.i64 n519, Value.int IntKind.i64 n520, Value.int IntKind.i64 n521, Value.int IntKind.i64 n522, Value.int IntKind.i64 n523, Value.int IntKind.i64 n524, Value.int IntKind.i64 n525, Value.int IntKind.i64 n526, Value.string s527, Value.string s528, Value.int IntKind.i64 n529, Value.int IntKind.i64 n530, Value.string s531, Value.int IntKind.i64 n532, Value.int IntKind.i64 n533, Value.int IntKind.i64 n534, Value.int IntKind.i64 n535, Value.int IntKind.i64 n536, Value.int IntKind.i64 n537, Value.int IntKind.i64 n538, Value.string s539, Value.string s540, Value.int IntKind.i64 n541, Value.int IntKind.i64 n542, Value.slice p543 k544 k545, Value.int IntKind.i64 n546, Value.int IntKind.i64 n547, Value.int IntKind.i64 n548, Value.int IntKind.i64 n549])) w518)
 (
 Br (n32 == (71 : Int))
 (
 (
 Wr w37 { block := b34, off := (27 : Nat) }) ∧
 LetW (w37.setCell { block := b34, off := (27 : Nat) } (Value.int IntKind.i64 n33)) fun w550 =>
 ∃ n551 : Int,
 ∃ n552 : Int,
 ∃ n553 : Int,
 ∃ n554 : Int,
 ∃ n555 : Int,
 ∃ n556 : Int,
 ∃ n557 : Int,
 ∃ n558 : Int,
 ∃ s559 : ByteArray,
 ∃ s560 : ByteArray,
 ∃ n561 : Int,
 ∃ n562 : Int,
 ∃ s563 : ByteArray,
 ∃ n564 : Int,
 ∃ n565 : Int,
 ∃ n566 : Int,
 ∃ n567 : Int,
 ∃ n568 : Int,
 ∃ n569 : Int,
 ∃ n570 : Int,
 ∃ s571 : ByteArray,
 ∃ s572 : ByteArray,
 ∃ n573 : Int,
 ∃ n574 : Int,
 ∃ p575 : Option Addr,
 ∃ k576 : Nat,
 ∃ k577 : Nat,
 ∃ n578 : Int,
 ∃ n579 : Int,
 ∃ n580 : Int,
 ∃ n581 : Int,
 (
 Row w550 { block := b34, off := (0 : Nat) } (0 : Nat) [Value.int IntKind.i64 n551, Value.int IntKind.i64 n552, Value.int IntKind.i64 n553, Value.int IntKind.i64 n554, Value.int IntKind.i64 n555, Value.int IntKind.i64 n556, Value.int IntKind.i64 n557, Value.int IntKind.i64 n558, Value.string s559, Value.string s560, Value.int IntKind.i64 n561, Value.int IntKind.i64 n562, Value.string s563, Value.int IntKind.i64 n564, Value.int IntKind.i64 n565, Value.int IntKind.i64 n566, Value.int IntKind.i64 n567, Value.int IntKind.i64 n568, Value.int IntKind.i64 n569, Value.int IntKind.i64 n570, Value.string s571, Value.string s572, Value.int IntKind.i64 n573, Value.int IntKind.i64 n574, Value.slice p575 k576 k577, Value.int IntKind.i64 n578, Value.int IntKind.i64 n579, Value.int IntKind.i64 n580, Value.int IntKind.i64 n581]) ∧
 (
 WrRow w550 { block := b36, off := (0 : Nat) } (0 : Nat) [Value.int IntKind.i64 n551, Value.int IntKind.i64 n552, Value.int IntKind.i64 n553, Value.int IntKind.i64 n554, Value.int IntKind.i64 n555, Value.int IntKind.i64 n556, Value.int IntKind.i64 n557, Value.int IntKind.i64 n558, Value.string s559, Value.string s560, Value.int IntKind.i64 n561, Value.int IntKind.i64 n562, Value.string s563, Value.int IntKind.i64 n564, Value.int IntKind.i64 n565, Value.int IntKind.i64 n566, Value.int IntKind.i64 n567, Value.int IntKind.i64 n568, Value.int IntKind.i64 n569, Value.int IntKind.i64 n570, Value.string s571, Value.string s572, Value.int IntKind.i64 n573, Value.int IntKind.i64 n574, Value.slice p575 k576 k577, Value.int IntKind.i64 n578, Value.int IntKind.i64 n579, Value.int IntKind.i64 n580, Value.int IntKind.i64 n581]) ∧
 LetW (setRow w550 { block := b36, off := (0 : Nat) } (0 : Nat) [Value.int IntKind.i64 n551, Value.int IntKind.i64 n552, Value.int IntKind.i64 n553, Value.int IntKind.i64 n554, Value.int IntKind.i64 n555, Value.int IntKind.i64 n556, Value.int IntKind.i64 n557, Value.int IntKind.i64 n558, Value.string s559, Value.string s560, Value.int IntKind.i64 n561, Value.int IntKind.i64 n562, Value.string s563, Value.int IntKind.i64 n564, Value.int IntKind.i64 n565, Value.int IntKind.i64 n566, Value.int IntKind.i64 n567, Value.int IntKind.i64 n568, Value.int IntKind.i64 n569, Value.int IntKind.i64 n570, Value.string s571, Value.string s572, Value.int IntKind.i64 n573, Value.int IntKind.i64 n574, Value.slice p575 k576 k577, Value.int IntKind.i64 n578, Value.int IntKind.i64 n579, Value.int IntKind.i64 n580, Value.int IntKind.i64 n581]) fun w582 =>
 ∃ n583 : Int,
 ∃ n584 : Int,
 ∃ n585 : Int,
 ∃ n586 : Int,
 ∃ n587 : Int,
 ∃ n588 : Int,
 ∃ n589 : Int,
 ∃ n590 : Int,
 ∃ s591 : ByteArray,
 ∃ s592 : ByteArray,
 ∃ n593 : Int,
 ∃ n594 : Int,
 ∃ s595 : ByteArray,
 ∃ n596 : Int,
 ∃ n597 : Int,
 ∃ n598 : Int,
 ∃ n599 : Int,
 ∃ n600 : Int,
 ∃ n601 : Int,
 ∃ n602 : Int,
 ∃ s603 : ByteArray,
 ∃ s604 : ByteArray,
 ∃ n605 : Int,
 ∃ n606 : Int,
 ∃ p607 : Option Addr,
 ∃ k608 : Nat,
 ∃ k609 : Nat,
 ∃ n610 : Int,
 ∃ n611 : Int,
 ∃ n612 : Int,
 ∃ n613 : Int,
 (
 Row w582 { block := b36, off := (0 : Nat) } (0 : Nat) [Value.int IntKind.i64 n583, Value.int IntKind.i64 n584, Value.int IntKind.i64 n585, Value.int IntKind.i64 n586, Value.int IntKind.i64 n587, Value.int IntKind.i64 n588, Value.int IntKind.i64 n589, Value.int IntKind.i64 n590, Value.string s591, Value.string s592, Value.int IntKind.i64 n593, Value.int IntKind.i64 n594, Value.string s595, Value.int IntKind.i64 n596, Value.int IntKind.i64 n597, Value.int IntKind.i64 n598, Value.int IntKind.i64 n599, Value.int IntKind.i64 n600, Value.int IntKind.i64 n601, Value.int IntKind.i64 n602, Value.string s603, Value.string s604, Value.int IntKind.i64 n605, Value.int IntKind.i64 n606, Value.slice p607 k608 k609, Value.int IntKind.i64 n610, Value.int IntKind.i64 n611, Value.int IntKind.i64 n612, Value.int IntKind.i64 n613]) ∧
 R (Ending.returned (Value.agg #[Value.int IntKind.i64 n583, Value.int IntKind.i64 n584, Value.int IntKind.i64 n585, Value.int IntKind.i64 n586, Value.int IntKind.i64 n587, Value.int IntKind.i64 n588, Value.int IntKind.i64 n589, Value.int IntKind.i64 n590, Value.string s591, Value.string s592, Value.int IntKind.i64 n593, Value.int IntKind.i64 n594, Value.string s595, Value.int IntKind.i64 n596, Value.int IntKind.i64 n597, Value.int IntKind.i64 n598, Value.int IntKind.i64 n599, Value.int IntKind.i64 n600, Value.int IntKind.i64 n601, Value.int IntKind.i64 n602, Value.string s603, Value.string s604, Value.int IntKind.i64 n605, Value.int IntKind.i64 n606, Value.slice p607 k608 k609, Value.int IntKind.i64 n610, Value.int IntKind.i64 n611, Value.int IntKind.i64 n612, Value.int IntKind.i64 n613])) w582)
 (
 (
 Wr w37 { block := b34, off := (28 : Nat) }) ∧
 LetW (w37.setCell { block := b34, off := (28 : Nat) } (Value.int IntKind.i64 n33)) fun w614 =>
 ∃ n615 : Int,
 ∃ n616 : Int,
 ∃ n617 : Int,
 ∃ n618 : Int,
 ∃ n619 : Int,
 ∃ n620 : Int,
 ∃ n621 : Int,
 ∃ n622 : Int,
 ∃ s623 : ByteArray,
 ∃ s624 : ByteArray,
 ∃ n625 : Int,
 ∃ n626 : Int,
 ∃ s627 : ByteArray,
 ∃ n628 : Int,
 ∃ n629 : Int,
 ∃ n630 : Int,
 ∃ n631 : Int,
 ∃ n632 : Int,
 ∃ n633 : Int,
 ∃ n634 : Int,
 ∃ s635 : ByteArray,
 ∃ s636 : ByteArray,
 ∃ n637 : Int,
 ∃ n638 : Int,
 ∃ p639 : Option Addr,
 ∃ k640 : Nat,
 ∃ k641 : Nat,
 ∃ n642 : Int,
 ∃ n643 : Int,
 ∃ n644 : Int,
 ∃ n645 : Int,
 (
 Row w614 { block := b34, off := (0 : Nat) } (0 : Nat) [Value.int IntKind.i64 n615, Value.int IntKind.i64 n616, Value.int IntKind.i64 n617, Value.int IntKind.i64 n618, Value.int IntKind.i64 n619, Value.int IntKind.i64 n620, Value.int IntKind.i64 n621, Value.int IntKind.i64 n622, Value.string s623, Value.string s624, Value.int IntKind.i64 n625, Value.int IntKind.i64 n626, Value.string s627, Value.int IntKind.i64 n628, Value.int IntKind.i64 n629, Value.int IntKind.i64 n630, Value.int IntKind.i64 n631, Value.int IntKind.i64 n632, Value.int IntKind.i64 n633, Value.int IntKind.i64 n634, Value.string s635, Value.string s636, Value.int IntKind.i64 n637, Value.int IntKind.i64 n638, Value.slice p639 k640 k641, Value.int IntKind.i64 n642, Value.int IntKind.i64 n643, Value.int IntKind.i64 n644, Value.int IntKind.i64 n645]) ∧
 (
 WrRow w614 { block := b36, off := (0 : Nat) } (0 : Nat) [Value.int IntKind.i64 n615, Value.int IntKind.i64 n616, Value.int IntKind.i64 n617, Value.int IntKind.i64 n618, Value.int IntKind.i64 n619, Value.int IntKind.i64 n620, Value.int IntKind.i64 n621, Value.int IntKind.i64 n622, Value.string s623, Value.string s624, Value.int IntKind.i64 n625, Value.int IntKind.i64 n626, Value.string s627, Value.int IntKind.i64 n628, Value.int IntKind.i64 n629, Value.int IntKind.i64 n630, Value.int IntKind.i64 n631, Value.int IntKind.i64 n632, Value.int IntKind.i64 n633, Value.int IntKind.i64 n634, Value.string s635, Value.string s636, Value.int IntKind.i64 n637, Value.int IntKind.i64 n638, Value.slice p639 k640 k641, Value.int IntKind.i64 n642, Value.int IntKind.i64 n643, Value.int IntKind.i64 n644, Value.int IntKind.i64 n645]) ∧
 LetW (setRow w614 { block := b36, off := (0 : Nat) } (0 : Nat) [Value.int IntKind.i64 n615, Value.int IntKind.i64 n616, Value.int IntKind.i64 n617, Value.int IntKind.i64 n618, Value.int IntKind.i64 n619, Value.int IntKind.i64 n620, Value.int IntKind.i64 n621, Value.int IntKind.i64 n622, Value.string s623, Value.string s624, Value.int IntKind.i64 n625, Value.int IntKind.i64 n626, Value.string s627, Value.int IntKind.i64 n628, Value.int IntKind.i64 n629, Value.int IntKind.i64 n630, Value.int IntKind.i64 n631, Value.int IntKind.i64 n632, Value.int IntKind.i64 n633, Value.int IntKind.i64 n634, Value.string s635, Value.string s636, Value.int IntKind.i64 n637, Value.int IntKind.i64 n638, Value.slice p639 k640 k641, Value.int IntKind.i64 n642, Value.int IntKind.i64 n643, Value.int IntKind.i64 n644, Value.int IntKind.i64 n645]) fun w646 =>
 ∃ n647 : Int,
 ∃ n648 : Int,
 ∃ n649 : Int,
 ∃ n650 : Int,
 ∃ n651 : Int,
 ∃ n652 : Int,
 ∃ n653 : Int,
 ∃ n654 : Int,
 ∃ s655 : ByteArray,
 ∃ s656 : ByteArray,
 ∃ n657 : Int,
 ∃ n658 : Int,
 ∃ s659 : ByteArray,
 ∃ n660 : Int,
 ∃ n661 : Int,
 ∃ n662 : Int,
 ∃ n663 : Int,
 ∃ n664 : Int,
 ∃ n665 : Int,
 ∃ n666 : Int,
 ∃ s667 : ByteArray,
 ∃ s668 : ByteArray,
 ∃ n669 : Int,
 ∃ n670 : Int,
 ∃ p671 : Option Addr,
 ∃ k672 : Nat,
 ∃ k673 : Nat,
 ∃ n674 : Int,
 ∃ n675 : Int,
 ∃ n676 : Int,
 ∃ n677 : Int,
 (
 Row w646 { block := b36, off := (0 : Nat) } (0 : Nat) [Value.int IntKind.i64 n647, Value.int IntKind.i64 n648, Value.int IntKind.i64 n649, Value.int IntKind.i64 n650, Value.int IntKind.i64 n651, Value.int IntKind.i64 n652, Value.int IntKind.i64 n653, Value.int IntKind.i64 n654, Value.string s655, Value.string s656, Value.int IntKind.i64 n657, Value.int IntKind.i64 n658, Value.string s659, Value.int IntKind.i64 n660, Value.int IntKind.i64 n661, Value.int IntKind.i64 n662, Value.int IntKind.i64 n663, Value.int IntKind.i64 n664, Value.int IntKind.i64 n665, Value.int IntKind.i64 n666, Value.string s667, Value.string s668, Value.int IntKind.i64 n669, Value.int IntKind.i64 n670, Value.slice p671 k672 k673, Value.int IntKind.i64 n674, Value.int IntKind.i64 n675, Value.int IntKind.i64 n676, Value.int IntKind.i64 n677]) ∧
 R (Ending.returned (Value.agg #[Value.int IntKind.i64 n647, Value.int IntKind.i64 n648, Value.int IntKind.i64 n649, Value.int IntKind.i64 n650, Value.int IntKind.i64 n651, Value.int IntKind.i64 n652, Value.int IntKind.i64 n653, Value.int IntKind.i64 n654, Value.string s655, Value.string s656, Value.int IntKind.i64 n657, Value.int IntKind.i64 n658, Value.string s659, Value.int IntKind.i64 n660, Value.int IntKind.i64 n661, Value.int IntKind.i64 n662, Value.int IntKind.i64 n663, Value.int IntKind.i64 n664, Value.int IntKind.i64 n665, Value.int IntKind.i64 n666, Value.string s667, Value.string s668, Value.int IntKind.i64 n669, Value.int IntKind.i64 n670, Value.slice p671 k672 k673, Value.int IntKind.i64 n674, Value.int IntKind.i64 n675, Value.int IntKind.i64 n676, Value.int IntKind.i64 n677])) w646)))))))))
theorem rwithf_ok (n1 : Int) (n2 : Int) (n3 : Int) (n4 : Int) (n5 : Int) (n6 : Int) (n7 : Int) (n8 : Int) (s9 : ByteArray) (s10 : ByteArray) (n11 : Int) (n12 : Int) (s13 : ByteArray) (n14 : Int) (n15 : Int) (n16 : Int) (n17 : Int) (n18 : Int) (n19 : Int) (n20 : Int) (s21 : ByteArray) (s22 : ByteArray) (n23 : Int) (n24 : Int) (p25 : Option Addr) (k26 : Nat) (k27 : Nat) (n28 : Int) (n29 : Int) (n30 : Int) (n31 : Int) (n32 : Int) (n33 : Int) (w : World) (R : Ending → World → Prop) (h : rwithf n1 n2 n3 n4 n5 n6 n7 n8 s9 s10 n11 n12 s13 n14 n15 n16 n17 n18 n19 n20 s21 s22 n23 n24 p25 k26 k27 n28 n29 n30 n31 n32 n33 w R) : Ca Try.prog 79 #[Value.agg #[Value.int IntKind.i64 n1, Value.int IntKind.i64 n2, Value.int IntKind.i64 n3, Value.int IntKind.i64 n4, Value.int IntKind.i64 n5, Value.int IntKind.i64 n6, Value.int IntKind.i64 n7, Value.int IntKind.i64 n8, Value.string s9, Value.string s10, Value.int IntKind.i64 n11, Value.int IntKind.i64 n12, Value.string s13, Value.int IntKind.i64 n14, Value.int IntKind.i64 n15, Value.int IntKind.i64 n16, Value.int IntKind.i64 n17, Value.int IntKind.i64 n18, Value.int IntKind.i64 n19, Value.int IntKind.i64 n20, Value.string s21, Value.string s22, Value.int IntKind.i64 n23, Value.int IntKind.i64 n24, Value.slice p25 k26 k27, Value.int IntKind.i64 n28, Value.int IntKind.i64 n29, Value.int IntKind.i64 n30, Value.int IntKind.i64 n31], Value.int IntKind.u8 n32, Value.int IntKind.i64 n33] w R :=
 Ca.of_fvc (c := bodyOf Try.f79) (by kernel_rfl) Try.func79 (by kernel_rfl) [] (Eq.mp (by kernel_rfl) h)

def rgood3 (n1 : Int) (n2 : Int) (n3 : Int) (w : World) (R : Ending → World → Prop) : Prop :=
 Br (decide (n1 ≥ (0 : Int)))
 (
 Br (decide (n1 ≤ (1099511627776 : Int)))
 (
 Br (decide (n2 ≥ (0 : Int)))
 (
 Br (decide (n2 ≤ (1099511627776 : Int)))
 (
 Br (decide (n3 ≥ (0 : Int)))
 (
 R (Ending.returned (Value.bool (decide (n3 ≤ (1099511627776 : Int))))) w)
 (
 R (Ending.returned (Value.bool false)) w))
 (
 R (Ending.returned (Value.bool false)) w))
 (
 R (Ending.returned (Value.bool false)) w))
 (
 R (Ending.returned (Value.bool false)) w))
 (
 R (Ending.returned (Value.bool false)) w)
theorem rgood3_ok (n1 : Int) (n2 : Int) (n3 : Int) (w : World) (R : Ending → World → Prop) (h : rgood3 n1 n2 n3 w R) : Ca Try.prog 102 #[Value.int IntKind.i64 n1, Value.int IntKind.i64 n2, Value.int IntKind.i64 n3] w R :=
 Ca.of_fvc (c := bodyOf Try.f102) (by kernel_rfl) Try.func102 (by kernel_rfl) [] (Eq.mp (by kernel_rfl) h)

def rfsame (n1 : Int) (n2 : Int) (n3 : Int) (n4 : Int) (n5 : Int) (n6 : Int) (n7 : Int) (n8 : Int) (s9 : ByteArray) (s10 : ByteArray) (n11 : Int) (n12 : Int) (s13 : ByteArray) (n14 : Int) (n15 : Int) (n16 : Int) (n17 : Int) (n18 : Int) (n19 : Int) (n20 : Int) (s21 : ByteArray) (s22 : ByteArray) (n23 : Int) (n24 : Int) (p25 : Option Addr) (k26 : Nat) (k27 : Nat) (n28 : Int) (n29 : Int) (n30 : Int) (n31 : Int) (n32 : Int) (n33 : Int) (n34 : Int) (n35 : Int) (n36 : Int) (n37 : Int) (n38 : Int) (n39 : Int) (s40 : ByteArray) (s41 : ByteArray) (n42 : Int) (n43 : Int) (s44 : ByteArray) (n45 : Int) (n46 : Int) (n47 : Int) (n48 : Int) (n49 : Int) (n50 : Int) (n51 : Int) (s52 : ByteArray) (s53 : ByteArray) (n54 : Int) (n55 : Int) (p56 : Option Addr) (k57 : Nat) (k58 : Nat) (n59 : Int) (n60 : Int) (n61 : Int) (n62 : Int) (w : World) (R : Ending → World → Prop) : Prop :=
 LetA (Obj.cells #[Value.int IntKind.i64 n1, Value.int IntKind.i64 n2, Value.int IntKind.i64 n3, Value.int IntKind.i64 n4, Value.int IntKind.i64 n5, Value.int IntKind.i64 n6, Value.int IntKind.i64 n7, Value.int IntKind.i64 n8, Value.string s9, Value.string s10, Value.int IntKind.i64 n11, Value.int IntKind.i64 n12, Value.string s13, Value.int IntKind.i64 n14, Value.int IntKind.i64 n15, Value.int IntKind.i64 n16, Value.int IntKind.i64 n17, Value.int IntKind.i64 n18, Value.int IntKind.i64 n19, Value.int IntKind.i64 n20, Value.string s21, Value.string s22, Value.int IntKind.i64 n23, Value.int IntKind.i64 n24, Value.slice p25 k26 k27, Value.int IntKind.i64 n28, Value.int IntKind.i64 n29, Value.int IntKind.i64 n30, Value.int IntKind.i64 n31] (58 : Nat)) w fun b63 w64 =>
 LetA (Obj.cells #[Value.int IntKind.i64 n32, Value.int IntKind.i64 n33, Value.int IntKind.i64 n34, Value.int IntKind.i64 n35, Value.int IntKind.i64 n36, Value.int IntKind.i64 n37, Value.int IntKind.i64 n38, Value.int IntKind.i64 n39, Value.string s40, Value.string s41, Value.int IntKind.i64 n42, Value.int IntKind.i64 n43, Value.string s44, Value.int IntKind.i64 n45, Value.int IntKind.i64 n46, Value.int IntKind.i64 n47, Value.int IntKind.i64 n48, Value.int IntKind.i64 n49, Value.int IntKind.i64 n50, Value.int IntKind.i64 n51, Value.string s52, Value.string s53, Value.int IntKind.i64 n54, Value.int IntKind.i64 n55, Value.slice p56 k57 k58, Value.int IntKind.i64 n59, Value.int IntKind.i64 n60, Value.int IntKind.i64 n61, Value.int IntKind.i64 n62] (58 : Nat)) w64 fun b65 w66 =>
 ∃ p67 : Option Addr,
 ∃ k68 : Nat,
 ∃ k69 : Nat,
 (
 w66.cell? { block := b63, off := (24 : Nat) } = some (Value.slice p67 k68 k69)) ∧
 ∃ p70 : Option Addr,
 ∃ k71 : Nat,
 ∃ k72 : Nat,
 (
 w66.cell? { block := b65, off := (24 : Nat) } = some (Value.slice p70 k71 k72)) ∧
 Br ((↑k68 : Int) != (↑k71 : Int))
 (
 R (Ending.returned (Value.bool false)) w66)
 (
 ∃ n73 : Int,
 (
 w66.cell? { block := b63, off := (23 : Nat) } = some (Value.int IntKind.i64 n73)) ∧
 ∃ n74 : Int,
 (
 w66.cell? { block := b65, off := (23 : Nat) } = some (Value.int IntKind.i64 n74)) ∧
 Br (n73 != n74)
 (
 R (Ending.returned (Value.bool false)) w66)
 (
 ∃ n75 : Int,
 (
 w66.cell? { block := b63, off := (25 : Nat) } = some (Value.int IntKind.i64 n75)) ∧
 ∃ n76 : Int,
 (
 w66.cell? { block := b65, off := (25 : Nat) } = some (Value.int IntKind.i64 n76)) ∧
 Br (n75 != n76)
 (
 R (Ending.returned (Value.bool false)) w66)
 (
 ∃ I77 : Nat → List Value → World → Prop,
 (
 ∃ k78 : Nat,
 I77 k78 [Value.bool false, Value.int IntKind.i64 (0 : Int)] w66) ∧
 ∀ b79 : Bool,
 ∀ n80 : Int,
 ∀ k81 : Nat,
 ∀ w82 : World,
 (
 I77 k81 [Value.bool b79, Value.int IntKind.i64 n80] w82) →
 ∃ p83 : Option Addr,
 ∃ k84 : Nat,
 ∃ k85 : Nat,
 (
 w82.cell? { block := b63, off := (24 : Nat) } = some (Value.slice p83 k84 k85)) ∧
 Br (decide (n80 < (↑k84 : Int)))
 (
 ∃ p86 : Option Addr,
 ∃ k87 : Nat,
 ∃ k88 : Nat,
 (
 w82.cell? { block := b63, off := (24 : Nat) } = some (Value.slice p86 k87 k88)) ∧
 NilOk p86 fun a89 =>
 (
 (
 (0 : Int) ≤ n80) ∧
 n80 < (↑k87 : Int)) ∧
 ∃ n90 : Int,
 ∃ n91 : Int,
 (
 Row w82 (a89.add (n80.toNat * (2 : Nat))) (0 : Nat) [Value.int IntKind.i64 n90, Value.int IntKind.i64 n91]) ∧
 ∃ p92 : Option Addr,
 ∃ k93 : Nat,
 ∃ k94 : Nat,
 (
 w82.cell? { block := b65, off := (24 : Nat) } = some (Value.slice p92 k93 k94)) ∧
 NilOk p92 fun a95 =>
 (
 (
 (0 : Int) ≤ n80) ∧
 n80 < (↑k93 : Int)) ∧
 ∃ n96 : Int,
 ∃ n97 : Int,
 (
 Row w82 (a95.add (n80.toNat * (2 : Nat))) (0 : Nat) [Value.int IntKind.i64 n96, Value.int IntKind.i64 n97]) ∧
 Br (!(n90 == n96 && (n91 == n97 && true)))
 (
 R (Ending.returned (Value.bool false)) w82)
 (
 LetI (IntKind.i64.wrap (n80 + (1 : Int))) fun n98 =>
 ∃ k99 : Nat,
 (
 k99 < k81) ∧
 I77 k99 [Value.bool b79, Value.int IntKind.i64 n98] w82))
 (
 ∃ n100 : Int,
 (
 w82.cell? { block := b63, off := (0 : Nat) } = some (Value.int IntKind.i64 n100)) ∧
 ∃ n101 : Int,
 (
 w82.cell? { block := b65, off := (0 : Nat) } = some (Value.int IntKind.i64 n101)) ∧
 Br (n100 != n101)
 (
 R (Ending.returned (Value.bool false)) w82)
 (
 ∃ n102 : Int,
 (
 w82.cell? { block := b63, off := (1 : Nat) } = some (Value.int IntKind.i64 n102)) ∧
 ∃ n103 : Int,
 (
 w82.cell? { block := b65, off := (1 : Nat) } = some (Value.int IntKind.i64 n103)) ∧
 Br (n102 != n103)
 (
 R (Ending.returned (Value.bool false)) w82)
 (
 ∃ n104 : Int,
 (
 w82.cell? { block := b63, off := (2 : Nat) } = some (Value.int IntKind.i64 n104)) ∧
 ∃ n105 : Int,
 (
 w82.cell? { block := b65, off := (2 : Nat) } = some (Value.int IntKind.i64 n105)) ∧
 Br (n104 != n105)
 (
 R (Ending.returned (Value.bool false)) w82)
 (
 ∃ n106 : Int,
 (
 w82.cell? { block := b63, off := (3 : Nat) } = some (Value.int IntKind.i64 n106)) ∧
 ∃ n107 : Int,
 (
 w82.cell? { block := b65, off := (3 : Nat) } = some (Value.int IntKind.i64 n107)) ∧
 Br (n106 != n107)
 (
 R (Ending.returned (Value.bool false)) w82)
 (
 ∃ n108 : Int,
 (
 w82.cell? { block := b63, off := (4 : Nat) } = some (Value.int IntKind.i64 n108)) ∧
 ∃ n109 : Int,
 (
 w82.cell? { block := b65, off := (4 : Nat) } = some (Value.int IntKind.i64 n109)) ∧
 Br (n108 != n109)
 (
 R (Ending.returned (Value.bool false)) w82)
 (
 ∃ n110 : Int,
 (
 w82.cell? { block := b63, off := (5 : Nat) } = some (Value.int IntKind.i64 n110)) ∧
 ∃ n111 : Int,
 (
 w82.cell? { block := b65, off := (5 : Nat) } = some (Value.int IntKind.i64 n111)) ∧
 Br (n110 != n111)
 (
 R (Ending.returned (Value.bool false)) w82)
 (
 ∃ n112 : Int,
 (
 w82.cell? { block := b63, off := (6 : Nat) } = some (Value.int IntKind.i64 n112)) ∧
 ∃ n113 : Int,
 (
 w82.cell? { block := b65, off := (6 : Nat) } = some (Value.int IntKind.i64 n113)) ∧
 Br (n112 == n113)
 (
 ∃ n114 : Int,
 ∃ s115 : ByteArray,
 ∃ s116 : ByteArray,
 ∃ n117 : Int,
 (
 Row w82 { block := b63, off := (7 : Nat) } (0 : Nat) [Value.int IntKind.i64 n114, Value.string s115, Value.string s116, Value.int IntKind.i64 n117]) ∧
 ∃ n118 : Int,
 ∃ s119 : ByteArray,
 ∃ s120 : ByteArray,
 ∃ n121 : Int,
 (
 Row w82 { block := b65, off := (7 : Nat) } (0 : Nat) [Value.int IntKind.i64 n118, Value.string s119, Value.string s120, Value.int IntKind.i64 n121]) ∧
 Br (n114 == n118 && (s115.toList == s119.toList && (s116.toList == s120.toList && (n117 == n121 && true))))
 (
 ∃ n122 : Int,
 ∃ s123 : ByteArray,
 ∃ n124 : Int,
 ∃ n125 : Int,
 (
 Row w82 { block := b63, off := (11 : Nat) } (0 : Nat) [Value.int IntKind.i64 n122, Value.string s123, Value.int IntKind.i64 n124, Value.int IntKind.i64 n125]) ∧
 ∃ n126 : Int,
 ∃ s127 : ByteArray,
 ∃ n128 : Int,
 ∃ n129 : Int,
 (
 Row w82 { block := b65, off := (11 : Nat) } (0 : Nat) [Value.int IntKind.i64 n126, Value.string s127, Value.int IntKind.i64 n128, Value.int IntKind.i64 n129]) ∧
 Br (n122 == n126 && (s123.toList == s127.toList && (n124 == n128 && (n125 == n129 && true))))
 (
 ∃ n130 : Int,
 (
 w82.cell? { block := b63, off := (15 : Nat) } = some (Value.int IntKind.i64 n130)) ∧
 ∃ n131 : Int,
 (
 w82.cell? { block := b65, off := (15 : Nat) } = some (Value.int IntKind.i64 n131)) ∧
 Br (n130 == n131)
 (
 ∃ n132 : Int,
 ∃ n133 : Int,
 ∃ n134 : Int,
 ∃ n135 : Int,
 ∃ s136 : ByteArray,
 ∃ s137 : ByteArray,
 ∃ n138 : Int,
 (
 Row w82 { block := b63, off := (16 : Nat) } (0 : Nat) [Value.int IntKind.i64 n132, Value.int IntKind.i64 n133, Value.int IntKind.i64 n134, Value.int IntKind.i64 n135, Value.string s136, Value.string s137, Value.int IntKind.i64 n138]) ∧
 ∃ n139 : Int,
 ∃ n140 : Int,
 ∃ n141 : Int,
 ∃ n142 : Int,
 ∃ s143 : ByteArray,
 ∃ s144 : ByteArray,
 ∃ n145 : Int,
 (
 Row w82 { block := b65, off := (16 : Nat) } (0 : Nat) [Value.int IntKind.i64 n139, Value.int IntKind.i64 n140, Value.int IntKind.i64 n141, Value.int IntKind.i64 n142, Value.string s143, Value.string s144, Value.int IntKind.i64 n145]) ∧
 Br (n132 == n139 && (n133 == n140 && (n134 == n141 && (n135 == n142 && (s136.toList == s143.toList && (s137.toList == s144.toList && (n138 == n145 && true))) && true))))
 (
 ∃ n146 : Int,
 (
 w82.cell? { block := b63, off := (26 : Nat) } = some (Value.int IntKind.i64 n146)) ∧
 ∃ n147 : Int,
 (
 w82.cell? { block := b65, off := (26 : Nat) } = some (Value.int IntKind.i64 n147)) ∧
 Br (n146 == n147)
 (
 ∃ n148 : Int,
 (
 w82.cell? { block := b63, off := (27 : Nat) } = some (Value.int IntKind.i64 n148)) ∧
 ∃ n149 : Int,
 (
 w82.cell? { block := b65, off := (27 : Nat) } = some (Value.int IntKind.i64 n149)) ∧
 Br (n148 == n149)
 (
 ∃ n150 : Int,
 (
 w82.cell? { block := b63, off := (28 : Nat) } = some (Value.int IntKind.i64 n150)) ∧
 ∃ n151 : Int,
 (
 w82.cell? { block := b65, off := (28 : Nat) } = some (Value.int IntKind.i64 n151)) ∧
 R (Ending.returned (Value.bool (n150 == n151))) w82)
 (
 R (Ending.returned (Value.bool false)) w82))
 (
 R (Ending.returned (Value.bool false)) w82))
 (
 R (Ending.returned (Value.bool false)) w82))
 (
 R (Ending.returned (Value.bool false)) w82))
 (
 R (Ending.returned (Value.bool false)) w82))
 (
 R (Ending.returned (Value.bool false)) w82))
 (
 R (Ending.returned (Value.bool false)) w82)))))))))))
theorem rfsame_ok (n1 : Int) (n2 : Int) (n3 : Int) (n4 : Int) (n5 : Int) (n6 : Int) (n7 : Int) (n8 : Int) (s9 : ByteArray) (s10 : ByteArray) (n11 : Int) (n12 : Int) (s13 : ByteArray) (n14 : Int) (n15 : Int) (n16 : Int) (n17 : Int) (n18 : Int) (n19 : Int) (n20 : Int) (s21 : ByteArray) (s22 : ByteArray) (n23 : Int) (n24 : Int) (p25 : Option Addr) (k26 : Nat) (k27 : Nat) (n28 : Int) (n29 : Int) (n30 : Int) (n31 : Int) (n32 : Int) (n33 : Int) (n34 : Int) (n35 : Int) (n36 : Int) (n37 : Int) (n38 : Int) (n39 : Int) (s40 : ByteArray) (s41 : ByteArray) (n42 : Int) (n43 : Int) (s44 : ByteArray) (n45 : Int) (n46 : Int) (n47 : Int) (n48 : Int) (n49 : Int) (n50 : Int) (n51 : Int) (s52 : ByteArray) (s53 : ByteArray) (n54 : Int) (n55 : Int) (p56 : Option Addr) (k57 : Nat) (k58 : Nat) (n59 : Int) (n60 : Int) (n61 : Int) (n62 : Int) (w : World) (R : Ending → World → Prop) (h : rfsame n1 n2 n3 n4 n5 n6 n7 n8 s9 s10 n11 n12 s13 n14 n15 n16 n17 n18 n19 n20 s21 s22 n23 n24 p25 k26 k27 n28 n29 n30 n31 n32 n33 n34 n35 n36 n37 n38 n39 s40 s41 n42 n43 s44 n45 n46 n47 n48 n49 n50 n51 s52 s53 n54 n55 p56 k57 k58 n59 n60 n61 n62 w R) : Ca Try.prog 47 #[Value.agg #[Value.int IntKind.i64 n1, Value.int IntKind.i64 n2, Value.int IntKind.i64 n3, Value.int IntKind.i64 n4, Value.int IntKind.i64 n5, Value.int IntKind.i64 n6, Value.int IntKind.i64 n7, Value.int IntKind.i64 n8, Value.string s9, Value.string s10, Value.int IntKind.i64 n11, Value.int IntKind.i64 n12, Value.string s13, Value.int IntKind.i64 n14, Value.int IntKind.i64 n15, Value.int IntKind.i64 n16, Value.int IntKind.i64 n17, Value.int IntKind.i64 n18, Value.int IntKind.i64 n19, Value.int IntKind.i64 n20, Value.string s21, Value.string s22, Value.int IntKind.i64 n23, Value.int IntKind.i64 n24, Value.slice p25 k26 k27, Value.int IntKind.i64 n28, Value.int IntKind.i64 n29, Value.int IntKind.i64 n30, Value.int IntKind.i64 n31], Value.agg #[Value.int IntKind.i64 n32, Value.int IntKind.i64 n33, Value.int IntKind.i64 n34, Value.int IntKind.i64 n35, Value.int IntKind.i64 n36, Value.int IntKind.i64 n37, Value.int IntKind.i64 n38, Value.int IntKind.i64 n39, Value.string s40, Value.string s41, Value.int IntKind.i64 n42, Value.int IntKind.i64 n43, Value.string s44, Value.int IntKind.i64 n45, Value.int IntKind.i64 n46, Value.int IntKind.i64 n47, Value.int IntKind.i64 n48, Value.int IntKind.i64 n49, Value.int IntKind.i64 n50, Value.int IntKind.i64 n51, Value.string s52, Value.string s53, Value.int IntKind.i64 n54, Value.int IntKind.i64 n55, Value.slice p56 k57 k58, Value.int IntKind.i64 n59, Value.int IntKind.i64 n60, Value.int IntKind.i64 n61, Value.int IntKind.i64 n62]] w R :=
 Ca.of_fvc (c := bodyOf Try.f47) (by kernel_rfl) Try.func47 (by kernel_rfl) [] (Eq.mp (by kernel_rfl) h)

def fgreat (n1 : Int) (n2 : Int) (n3 : Int) (n4 : Int) (n5 : Int) (n6 : Int) (n7 : Int) (n8 : Int) (s9 : ByteArray) (s10 : ByteArray) (n11 : Int) (n12 : Int) (s13 : ByteArray) (n14 : Int) (n15 : Int) (n16 : Int) (n17 : Int) (n18 : Int) (n19 : Int) (n20 : Int) (s21 : ByteArray) (s22 : ByteArray) (n23 : Int) (n24 : Int) (p25 : Option Addr) (k26 : Nat) (k27 : Nat) (n28 : Int) (n29 : Int) (n30 : Int) (n31 : Int) (w : World) (R : Ending → World → Prop) : Prop :=
 LetA (Obj.cells #[Value.int IntKind.i64 n1, Value.int IntKind.i64 n2, Value.int IntKind.i64 n3, Value.int IntKind.i64 n4, Value.int IntKind.i64 n5, Value.int IntKind.i64 n6, Value.int IntKind.i64 n7, Value.int IntKind.i64 n8, Value.string s9, Value.string s10, Value.int IntKind.i64 n11, Value.int IntKind.i64 n12, Value.string s13, Value.int IntKind.i64 n14, Value.int IntKind.i64 n15, Value.int IntKind.i64 n16, Value.int IntKind.i64 n17, Value.int IntKind.i64 n18, Value.int IntKind.i64 n19, Value.int IntKind.i64 n20, Value.string s21, Value.string s22, Value.int IntKind.i64 n23, Value.int IntKind.i64 n24, Value.slice p25 k26 k27, Value.int IntKind.i64 n28, Value.int IntKind.i64 n29, Value.int IntKind.i64 n30, Value.int IntKind.i64 n31] (58 : Nat)) w fun b32 w33 =>
 ∃ s34 : ByteArray,
 (
 w33.cell? { block := b32, off := (8 : Nat) } = some (Value.string s34)) ∧
 Br (decide ((↑s34.size : Int) > (300 : Int)))
 (
 R (Ending.returned (Value.bool true)) w33)
 (
 ∃ s35 : ByteArray,
 (
 w33.cell? { block := b32, off := (9 : Nat) } = some (Value.string s35)) ∧
 Br (decide ((↑s35.size : Int) > (300 : Int)))
 (
 R (Ending.returned (Value.bool true)) w33)
 (
 ∃ s36 : ByteArray,
 (
 w33.cell? { block := b32, off := (20 : Nat) } = some (Value.string s36)) ∧
 Br (decide ((↑s36.size : Int) > (300 : Int)))
 (
 R (Ending.returned (Value.bool true)) w33)
 (
 ∃ s37 : ByteArray,
 (
 w33.cell? { block := b32, off := (21 : Nat) } = some (Value.string s37)) ∧
 Br (decide ((↑s37.size : Int) > (300 : Int)))
 (
 R (Ending.returned (Value.bool true)) w33)
 (
 ∃ s38 : ByteArray,
 (
 w33.cell? { block := b32, off := (12 : Nat) } = some (Value.string s38)) ∧
 Br (decide ((↑s38.size : Int) > (300 : Int)))
 (
 R (Ending.returned (Value.bool true)) w33)
 (
 ∃ p39 : Option Addr,
 ∃ k40 : Nat,
 ∃ k41 : Nat,
 (
 w33.cell? { block := b32, off := (24 : Nat) } = some (Value.slice p39 k40 k41)) ∧
 R (Ending.returned (Value.bool (decide ((↑k40 : Int) > (12 : Int))))) w33)))))
theorem fgreat_ok (n1 : Int) (n2 : Int) (n3 : Int) (n4 : Int) (n5 : Int) (n6 : Int) (n7 : Int) (n8 : Int) (s9 : ByteArray) (s10 : ByteArray) (n11 : Int) (n12 : Int) (s13 : ByteArray) (n14 : Int) (n15 : Int) (n16 : Int) (n17 : Int) (n18 : Int) (n19 : Int) (n20 : Int) (s21 : ByteArray) (s22 : ByteArray) (n23 : Int) (n24 : Int) (p25 : Option Addr) (k26 : Nat) (k27 : Nat) (n28 : Int) (n29 : Int) (n30 : Int) (n31 : Int) (w : World) (R : Ending → World → Prop) (h : fgreat n1 n2 n3 n4 n5 n6 n7 n8 s9 s10 n11 n12 s13 n14 n15 n16 n17 n18 n19 n20 s21 s22 n23 n24 p25 k26 k27 n28 n29 n30 n31 w R) : Ca Try.prog 48 #[Value.agg #[Value.int IntKind.i64 n1, Value.int IntKind.i64 n2, Value.int IntKind.i64 n3, Value.int IntKind.i64 n4, Value.int IntKind.i64 n5, Value.int IntKind.i64 n6, Value.int IntKind.i64 n7, Value.int IntKind.i64 n8, Value.string s9, Value.string s10, Value.int IntKind.i64 n11, Value.int IntKind.i64 n12, Value.string s13, Value.int IntKind.i64 n14, Value.int IntKind.i64 n15, Value.int IntKind.i64 n16, Value.int IntKind.i64 n17, Value.int IntKind.i64 n18, Value.int IntKind.i64 n19, Value.int IntKind.i64 n20, Value.string s21, Value.string s22, Value.int IntKind.i64 n23, Value.int IntKind.i64 n24, Value.slice p25 k26 k27, Value.int IntKind.i64 n28, Value.int IntKind.i64 n29, Value.int IntKind.i64 n30, Value.int IntKind.i64 n31]] w R :=
 Ca.of_fvc (c := bodyOf Try.f48) (by kernel_rfl) Try.func48 (by kernel_rfl) [] (Eq.mp (by kernel_rfl) h)

def fbytes (n1 : Int) (n2 : Int) (n3 : Int) (n4 : Int) (n5 : Int) (n6 : Int) (n7 : Int) (n8 : Int) (s9 : ByteArray) (s10 : ByteArray) (n11 : Int) (n12 : Int) (s13 : ByteArray) (n14 : Int) (n15 : Int) (n16 : Int) (n17 : Int) (n18 : Int) (n19 : Int) (n20 : Int) (s21 : ByteArray) (s22 : ByteArray) (n23 : Int) (n24 : Int) (p25 : Option Addr) (k26 : Nat) (k27 : Nat) (n28 : Int) (n29 : Int) (n30 : Int) (n31 : Int) (s32 : ByteArray) (w : World) (R : Ending → World → Prop) : Prop :=
 LetA (Obj.cells #[Value.int IntKind.i64 n1, Value.int IntKind.i64 n2, Value.int IntKind.i64 n3, Value.int IntKind.i64 n4, Value.int IntKind.i64 n5, Value.int IntKind.i64 n6, Value.int IntKind.i64 n7, Value.int IntKind.i64 n8, Value.string s9, Value.string s10, Value.int IntKind.i64 n11, Value.int IntKind.i64 n12, Value.string s13, Value.int IntKind.i64 n14, Value.int IntKind.i64 n15, Value.int IntKind.i64 n16, Value.int IntKind.i64 n17, Value.int IntKind.i64 n18, Value.int IntKind.i64 n19, Value.int IntKind.i64 n20, Value.string s21, Value.string s22, Value.int IntKind.i64 n23, Value.int IntKind.i64 n24, Value.slice p25 k26 k27, Value.int IntKind.i64 n28, Value.int IntKind.i64 n29, Value.int IntKind.i64 n30, Value.int IntKind.i64 n31] (58 : Nat)) w fun b33 w34 =>
 ∃ n35 : Int,
 ∃ n36 : Int,
 ∃ n37 : Int,
 ∃ n38 : Int,
 ∃ n39 : Int,
 ∃ n40 : Int,
 ∃ n41 : Int,
 ∃ n42 : Int,
 ∃ s43 : ByteArray,
 ∃ s44 : ByteArray,
 ∃ n45 : Int,
 ∃ n46 : Int,
 ∃ s47 : ByteArray,
 ∃ n48 : Int,
 ∃ n49 : Int,
 ∃ n50 : Int,
 ∃ n51 : Int,
 ∃ n52 : Int,
 ∃ n53 : Int,
 ∃ n54 : Int,
 ∃ s55 : ByteArray,
 ∃ s56 : ByteArray,
 ∃ n57 : Int,
 ∃ n58 : Int,
 ∃ p59 : Option Addr,
 ∃ k60 : Nat,
 ∃ k61 : Nat,
 ∃ n62 : Int,
 ∃ n63 : Int,
 ∃ n64 : Int,
 ∃ n65 : Int,
 (
 Row w34 { block := b33, off := (0 : Nat) } (0 : Nat) [Value.int IntKind.i64 n35, Value.int IntKind.i64 n36, Value.int IntKind.i64 n37, Value.int IntKind.i64 n38, Value.int IntKind.i64 n39, Value.int IntKind.i64 n40, Value.int IntKind.i64 n41, Value.int IntKind.i64 n42, Value.string s43, Value.string s44, Value.int IntKind.i64 n45, Value.int IntKind.i64 n46, Value.string s47, Value.int IntKind.i64 n48, Value.int IntKind.i64 n49, Value.int IntKind.i64 n50, Value.int IntKind.i64 n51, Value.int IntKind.i64 n52, Value.int IntKind.i64 n53, Value.int IntKind.i64 n54, Value.string s55, Value.string s56, Value.int IntKind.i64 n57, Value.int IntKind.i64 n58, Value.slice p59 k60 k61, Value.int IntKind.i64 n62, Value.int IntKind.i64 n63, Value.int IntKind.i64 n64, Value.int IntKind.i64 n65]) ∧
 Ca Try.prog (50 : Nat) #[Value.agg #[Value.int IntKind.i64 n35, Value.int IntKind.i64 n36, Value.int IntKind.i64 n37, Value.int IntKind.i64 n38, Value.int IntKind.i64 n39, Value.int IntKind.i64 n40, Value.int IntKind.i64 n41, Value.int IntKind.i64 n42, Value.string s43, Value.string s44, Value.int IntKind.i64 n45, Value.int IntKind.i64 n46, Value.string s47, Value.int IntKind.i64 n48, Value.int IntKind.i64 n49, Value.int IntKind.i64 n50, Value.int IntKind.i64 n51, Value.int IntKind.i64 n52, Value.int IntKind.i64 n53, Value.int IntKind.i64 n54, Value.string s55, Value.string s56, Value.int IntKind.i64 n57, Value.int IntKind.i64 n58, Value.slice p59 k60 k61, Value.int IntKind.i64 n62, Value.int IntKind.i64 n63, Value.int IntKind.i64 n64, Value.int IntKind.i64 n65]] w34 fun e66 w67 =>
 ∃ s68 : ByteArray,
 ∃ n69 : Int,
 (
 e66 = Ending.returned (Value.tuple #[Value.string s68, Value.int IntKind.i64 n69])) ∧
 Br (s68.toList == s32.toList)
 (
 R (Ending.returned (Value.bool (n69 == (0 : Int)))) w67)
 (
 R (Ending.returned (Value.bool false)) w67)
theorem fbytes_ok (n1 : Int) (n2 : Int) (n3 : Int) (n4 : Int) (n5 : Int) (n6 : Int) (n7 : Int) (n8 : Int) (s9 : ByteArray) (s10 : ByteArray) (n11 : Int) (n12 : Int) (s13 : ByteArray) (n14 : Int) (n15 : Int) (n16 : Int) (n17 : Int) (n18 : Int) (n19 : Int) (n20 : Int) (s21 : ByteArray) (s22 : ByteArray) (n23 : Int) (n24 : Int) (p25 : Option Addr) (k26 : Nat) (k27 : Nat) (n28 : Int) (n29 : Int) (n30 : Int) (n31 : Int) (s32 : ByteArray) (w : World) (R : Ending → World → Prop) (h : fbytes n1 n2 n3 n4 n5 n6 n7 n8 s9 s10 n11 n12 s13 n14 n15 n16 n17 n18 n19 n20 s21 s22 n23 n24 p25 k26 k27 n28 n29 n30 n31 s32 w R) : Ca Try.prog 52 #[Value.agg #[Value.int IntKind.i64 n1, Value.int IntKind.i64 n2, Value.int IntKind.i64 n3, Value.int IntKind.i64 n4, Value.int IntKind.i64 n5, Value.int IntKind.i64 n6, Value.int IntKind.i64 n7, Value.int IntKind.i64 n8, Value.string s9, Value.string s10, Value.int IntKind.i64 n11, Value.int IntKind.i64 n12, Value.string s13, Value.int IntKind.i64 n14, Value.int IntKind.i64 n15, Value.int IntKind.i64 n16, Value.int IntKind.i64 n17, Value.int IntKind.i64 n18, Value.int IntKind.i64 n19, Value.int IntKind.i64 n20, Value.string s21, Value.string s22, Value.int IntKind.i64 n23, Value.int IntKind.i64 n24, Value.slice p25 k26 k27, Value.int IntKind.i64 n28, Value.int IntKind.i64 n29, Value.int IntKind.i64 n30, Value.int IntKind.i64 n31], Value.string s32] w R :=
 Ca.of_fvc (c := bodyOf Try.f52) (by kernel_rfl) Try.func52 (by kernel_rfl) [] (Eq.mp (by kernel_rfl) h)

def fsent (w : World) (R : Ending → World → Prop) : Prop :=
 Ca Try.prog (45 : Nat) #[Value.string { data := #[] }] w fun e1 w2 =>
 ∃ n3 : Int,
 ∃ n4 : Int,
 ∃ n5 : Int,
 ∃ n6 : Int,
 ∃ n7 : Int,
 ∃ n8 : Int,
 ∃ n9 : Int,
 ∃ n10 : Int,
 ∃ s11 : ByteArray,
 ∃ s12 : ByteArray,
 ∃ n13 : Int,
 ∃ n14 : Int,
 ∃ s15 : ByteArray,
 ∃ n16 : Int,
 ∃ n17 : Int,
 ∃ n18 : Int,
 ∃ n19 : Int,
 ∃ n20 : Int,
 ∃ n21 : Int,
 ∃ n22 : Int,
 ∃ s23 : ByteArray,
 ∃ s24 : ByteArray,
 ∃ n25 : Int,
 ∃ n26 : Int,
 ∃ p27 : Option Addr,
 ∃ k28 : Nat,
 ∃ k29 : Nat,
 ∃ n30 : Int,
 ∃ n31 : Int,
 ∃ n32 : Int,
 ∃ n33 : Int,
 ∃ n34 : Int,
 (
 e1 = Ending.returned (Value.tuple #[Value.agg #[Value.int IntKind.i64 n3, Value.int IntKind.i64 n4, Value.int IntKind.i64 n5, Value.int IntKind.i64 n6, Value.int IntKind.i64 n7, Value.int IntKind.i64 n8, Value.int IntKind.i64 n9, Value.int IntKind.i64 n10, Value.string s11, Value.string s12, Value.int IntKind.i64 n13, Value.int IntKind.i64 n14, Value.string s15, Value.int IntKind.i64 n16, Value.int IntKind.i64 n17, Value.int IntKind.i64 n18, Value.int IntKind.i64 n19, Value.int IntKind.i64 n20, Value.int IntKind.i64 n21, Value.int IntKind.i64 n22, Value.string s23, Value.string s24, Value.int IntKind.i64 n25, Value.int IntKind.i64 n26, Value.slice p27 k28 k29, Value.int IntKind.i64 n30, Value.int IntKind.i64 n31, Value.int IntKind.i64 n32, Value.int IntKind.i64 n33], Value.int IntKind.i64 n34])) ∧
 LetA (Obj.cells #[Value.int IntKind.i64 (0 : Int), Value.int IntKind.i64 (0 : Int), Value.int IntKind.i64 (0 : Int), Value.int IntKind.i64 (0 : Int), Value.int IntKind.i64 (0 : Int), Value.int IntKind.i64 (0 : Int), Value.int IntKind.i64 (0 : Int), Value.int IntKind.i64 (0 : Int), Value.string { data := #[] }, Value.string { data := #[] }, Value.int IntKind.i64 (0 : Int), Value.int IntKind.i64 (0 : Int), Value.string { data := #[] }, Value.int IntKind.i64 (0 : Int), Value.int IntKind.i64 (0 : Int), Value.int IntKind.i64 (0 : Int), Value.int IntKind.i64 (0 : Int), Value.int IntKind.i64 (0 : Int), Value.int IntKind.i64 (0 : Int), Value.int IntKind.i64 (0 : Int), Value.string { data := #[] }, Value.string { data := #[] }, Value.int IntKind.i64 (0 : Int), Value.int IntKind.i64 (0 : Int), Value.slice none (0 : Nat) (0 : Nat), Value.int IntKind.i64 (0 : Int), Value.int IntKind.i64 (0 : Int), Value.int IntKind.i64 (0 : Int), Value.int IntKind.i64 (0 : Int)] (58 : Nat)) w2 fun b35 w36 =>
 (
 WrRow w36 { block := b35, off := (0 : Nat) } (0 : Nat) [Value.int IntKind.i64 n3, Value.int IntKind.i64 n4, Value.int IntKind.i64 n5, Value.int IntKind.i64 n6, Value.int IntKind.i64 n7, Value.int IntKind.i64 n8, Value.int IntKind.i64 n9, Value.int IntKind.i64 n10, Value.string s11, Value.string s12, Value.int IntKind.i64 n13, Value.int IntKind.i64 n14, Value.string s15, Value.int IntKind.i64 n16, Value.int IntKind.i64 n17, Value.int IntKind.i64 n18, Value.int IntKind.i64 n19, Value.int IntKind.i64 n20, Value.int IntKind.i64 n21, Value.int IntKind.i64 n22, Value.string s23, Value.string s24, Value.int IntKind.i64 n25, Value.int IntKind.i64 n26, Value.slice p27 k28 k29, Value.int IntKind.i64 n30, Value.int IntKind.i64 n31, Value.int IntKind.i64 n32, Value.int IntKind.i64 n33]) ∧
 LetW (setRow w36 { block := b35, off := (0 : Nat) } (0 : Nat) [Value.int IntKind.i64 n3, Value.int IntKind.i64 n4, Value.int IntKind.i64 n5, Value.int IntKind.i64 n6, Value.int IntKind.i64 n7, Value.int IntKind.i64 n8, Value.int IntKind.i64 n9, Value.int IntKind.i64 n10, Value.string s11, Value.string s12, Value.int IntKind.i64 n13, Value.int IntKind.i64 n14, Value.string s15, Value.int IntKind.i64 n16, Value.int IntKind.i64 n17, Value.int IntKind.i64 n18, Value.int IntKind.i64 n19, Value.int IntKind.i64 n20, Value.int IntKind.i64 n21, Value.int IntKind.i64 n22, Value.string s23, Value.string s24, Value.int IntKind.i64 n25, Value.int IntKind.i64 n26, Value.slice p27 k28 k29, Value.int IntKind.i64 n30, Value.int IntKind.i64 n31, Value.int IntKind.i64 n32, Value.int IntKind.i64 n33]) fun w37 =>
 Ca Try.prog (52 : Nat) #[Value.agg #[Value.int IntKind.i64 (7 : Int), Value.int IntKind.i64 (9 : Int), Value.int IntKind.i64 (0 : Int), Value.int IntKind.i64 (0 : Int), Value.int IntKind.i64 (0 : Int), Value.int IntKind.i64 (0 : Int), Value.int IntKind.i64 (0 : Int), Value.int IntKind.i64 (0 : Int), Value.string { data := #[] }, Value.string { data := #[] }, Value.int IntKind.i64 (0 : Int), Value.int IntKind.i64 (0 : Int), Value.string { data := #[] }, Value.int IntKind.i64 (0 : Int), Value.int IntKind.i64 (0 : Int), Value.int IntKind.i64 (0 : Int), Value.int IntKind.i64 (0 : Int), Value.int IntKind.i64 (0 : Int), Value.int IntKind.i64 (0 : Int), Value.int IntKind.i64 (0 : Int), Value.string { data := #[] }, Value.string { data := #[] }, Value.int IntKind.i64 (0 : Int), Value.int IntKind.i64 (0 : Int), Value.slice none (0 : Nat) (0 : Nat), Value.int IntKind.i64 (0 : Int), Value.int IntKind.i64 (0 : Int), Value.int IntKind.i64 (0 : Int), Value.int IntKind.i64 (0 : Int)], Value.string { data := #[(8 : UInt8)] }] w37 fun e38 w39 =>
 ∃ b40 : Bool,
 (
 e38 = Ending.returned (Value.bool b40)) ∧
 Br (b40)
 (
 Ca Try.prog (52 : Nat) #[Value.agg #[Value.int IntKind.i64 (6 : Int), Value.int IntKind.i64 (2 : Int), Value.int IntKind.i64 (0 : Int), Value.int IntKind.i64 (0 : Int), Value.int IntKind.i64 (0 : Int), Value.int IntKind.i64 (0 : Int), Value.int IntKind.i64 (0 : Int), Value.int IntKind.i64 (0 : Int), Value.string { data := #[] }, Value.string { data := #[] }, Value.int IntKind.i64 (0 : Int), Value.int IntKind.i64 (0 : Int), Value.string { data := #[] }, Value.int IntKind.i64 (0 : Int), Value.int IntKind.i64 (0 : Int), Value.int IntKind.i64 (0 : Int), Value.int IntKind.i64 (0 : Int), Value.int IntKind.i64 (0 : Int), Value.int IntKind.i64 (0 : Int), Value.int IntKind.i64 (0 : Int), Value.string { data := #[] }, Value.string { data := #[] }, Value.int IntKind.i64 (0 : Int), Value.int IntKind.i64 (0 : Int), Value.slice none (0 : Nat) (0 : Nat), Value.int IntKind.i64 (0 : Int), Value.int IntKind.i64 (0 : Int), Value.int IntKind.i64 (0 : Int), Value.int IntKind.i64 (0 : Int)], Value.string { data := #[(7 : UInt8), (3 : UInt8), (1 : UInt8)] }] w39 fun e41 w42 =>
 ∃ b43 : Bool,
 (
 e41 = Ending.returned (Value.bool b43)) ∧
 Br (b43)
 (
 Ca Try.prog (52 : Nat) #[Value.agg #[Value.int IntKind.i64 (2 : Int), Value.int IntKind.i64 (0 : Int), Value.int IntKind.i64 (0 : Int), Value.int IntKind.i64 (1 : Int), Value.int IntKind.i64 (1 : Int), Value.int IntKind.i64 (0 : Int), Value.int IntKind.i64 (0 : Int), Value.int IntKind.i64 (0 : Int), Value.string { data := #[] }, Value.string { data := #[] }, Value.int IntKind.i64 (0 : Int), Value.int IntKind.i64 (2 : Int), Value.string { data := #[] }, Value.int IntKind.i64 (0 : Int), Value.int IntKind.i64 (4 : Int), Value.int IntKind.i64 (0 : Int), Value.int IntKind.i64 (0 : Int), Value.int IntKind.i64 (0 : Int), Value.int IntKind.i64 (0 : Int), Value.int IntKind.i64 (0 : Int), Value.string { data := #[] }, Value.string { data := #[] }, Value.int IntKind.i64 (0 : Int), Value.int IntKind.i64 (0 : Int), Value.slice none (0 : Nat) (0 : Nat), Value.int IntKind.i64 (0 : Int), Value.int IntKind.i64 (0 : Int), Value.int IntKind.i64 (0 : Int), Value.int IntKind.i64 (0 : Int)], Value.string { data := #[(3 : UInt8), (1 : UInt8), (2 : UInt8), (2 : UInt8), (3 : UInt8), (0 : UInt8), (1 : UInt8), (5 : UInt8)] }] w42 fun e44 w45 =>
 ∃ b46 : Bool,
 (
 e44 = Ending.returned (Value.bool b46)) ∧
 Br (b46)
 (
 R (Ending.returned (Value.bool (n34 == (10 : Int)))) w45)
 (
 R (Ending.returned (Value.bool false)) w45))
 (
 R (Ending.returned (Value.bool false)) w42))
 (
 R (Ending.returned (Value.bool false)) w39)
theorem fsent_ok (w : World) (R : Ending → World → Prop) (h : fsent  w R) : Ca Try.prog 44 #[] w R :=
 Ca.of_fvc (c := bodyOf Try.f44) (by kernel_rfl) Try.func44 (by kernel_rfl) [] (Eq.mp (by kernel_rfl) h)

end Go.Proofs.Ytbdhdjbdooccoaa
