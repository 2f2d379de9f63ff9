/- The verification conditions of this seat's functions, printed by a program; the kernel holds each against the loaded code. -/
import Derived.Test.YtbdhdjbdooccoaaProg
import Derived.KernelRfl
import Derived.Test.YtbdhdjbdooccoaaV5
set_option maxRecDepth 100000
namespace Go.Proofs.Ytbdhdjbdooccoaa
open Go Go.Vc Go.Proofs
def fget (s1 : ByteArray) (w : World) (R : Ending → World → Prop) : Prop :=
 LetA (Obj.cells #[Value.int IntKind.i64 (0 : Int), Value.int IntKind.i64 (0 : Int), Value.int IntKind.i64 (0 : Int), Value.int IntKind.i64 (0 : Int), Value.int IntKind.i64 (0 : Int), Value.int IntKind.i64 (0 : Int), Value.int IntKind.i64 (0 : Int), Value.int IntKind.i64 (0 : Int), Value.string { data := #[] }, Value.string { data := #[] }, Value.int IntKind.i64 (0 : Int), Value.int IntKind.i64 (0 : Int), Value.string { data := #[] }, Value.int IntKind.i64 (0 : Int), Value.int IntKind.i64 (0 : Int), Value.int IntKind.i64 (0 : Int), Value.int IntKind.i64 (0 : Int), Value.int IntKind.i64 (0 : Int), Value.int IntKind.i64 (0 : Int), Value.int IntKind.i64 (0 : Int), Value.string { data := #[] }, Value.string { data := #[] }, Value.int IntKind.i64 (0 : Int), Value.int IntKind.i64 (0 : Int), Value.slice none (0 : Nat) (0 : Nat), Value.int IntKind.i64 (0 : Int), Value.int IntKind.i64 (0 : Int), Value.int IntKind.i64 (0 : Int), Value.int IntKind.i64 (0 : Int)] (58 : Nat)) w fun b2 w3 =>
 Br (decide ((↑s1.size : Int) > (512 : Int)))
 (
 (
 WrRow w3 { block := b2, off := (0 : Nat) } (0 : Nat) [Value.int IntKind.i64 (0 : Int), Value.int IntKind.i64 (0 : Int), Value.int IntKind.i64 (0 : Int), Value.int IntKind.i64 (0 : Int), Value.int IntKind.i64 (0 : Int), Value.int IntKind.i64 (0 : Int), Value.int IntKind.i64 (0 : Int), Value.int IntKind.i64 (0 : Int), Value.string { data := #[] }, Value.string { data := #[] }, Value.int IntKind.i64 (0 : Int), Value.int IntKind.i64 (0 : Int), Value.string { data := #[] }, Value.int IntKind.i64 (0 : Int), Value.int IntKind.i64 (0 : Int), Value.int IntKind.i64 (0 : Int), Value.int IntKind.i64 (0 : Int), Value.int IntKind.i64 (0 : Int), Value.int IntKind.i64 (0 : Int), Value.int IntKind.i64 (0 : Int), Value.string { data := #[] }, Value.string { data := #[] }, Value.int IntKind.i64 (0 : Int), Value.int IntKind.i64 (0 : Int), Value.slice none (0 : Nat) (0 : Nat), Value.int IntKind.i64 (0 : Int), Value.int IntKind.i64 (0 : Int), Value.int IntKind.i64 (0 : Int), Value.int IntKind.i64 (0 : Int)]) ∧
 LetW (setRow w3 { block := b2, off := (0 : Nat) } (0 : Nat) [Value.int IntKind.i64 (0 : Int), Value.int IntKind.i64 (0 : Int), Value.int IntKind.i64 (0 : Int), Value.int IntKind.i64 (0 : Int), Value.int IntKind.i64 (0 : Int), Value.int IntKind.i64 (0 : Int), Value.int IntKind.i64 (0 : Int), Value.int IntKind.i64 (0 : Int), Value.string { data := #[] }, Value.string { data := #[] }, Value.int IntKind.i64 (0 : Int), Value.int IntKind.i64 (0 : Int), Value.string { data := #[] }, Value.int IntKind.i64 (0 : Int), Value.int IntKind.i64 (0 : Int), Value.int IntKind.i64 (0 : Int), Value.int IntKind.i64 (0 : Int), Value.int IntKind.i64 (0 : Int), Value.int IntKind.i64 (0 : Int), Value.int IntKind.i64 (0 : Int), Value.string { data := #[] }, Value.string { data := #[] }, Value.int IntKind.i64 (0 : Int), Value.int IntKind.i64 (0 : Int), Value.slice none (0 : Nat) (0 : Nat), Value.int IntKind.i64 (0 : Int), Value.int IntKind.i64 (0 : Int), Value.int IntKind.i64 (0 : Int), Value.int IntKind.i64 (0 : Int)]) fun w4 =>
 ∃ n5 : Int,
 ∃ n6 : Int,
 ∃ n7 : Int,
 ∃ n8 : Int,
 ∃ n9 : Int,
 ∃ n10 : Int,
 ∃ n11 : Int,
 ∃ n12 : Int,
 ∃ s13 : ByteArray,
 ∃ s14 : ByteArray,
 ∃ n15 : Int,
 ∃ n16 : Int,
 ∃ s17 : ByteArray,
 ∃ n18 : Int,
 ∃ n19 : Int,
 ∃ n20 : Int,
 ∃ n21 : Int,
 ∃ n22 : Int,
 ∃ n23 : Int,
 ∃ n24 : Int,
 ∃ s25 : ByteArray,
 ∃ s26 : ByteArray,
 ∃ n27 : Int,
 ∃ n28 : Int,
 ∃ p29 : Option Addr,
 ∃ k30 : Nat,
 ∃ k31 : Nat,
 ∃ n32 : Int,
 ∃ n33 : Int,
 ∃ n34 : Int,
 ∃ n35 : Int,
 (
 Row w4 { block := b2, off := (0 : Nat) } (0 : Nat) [Value.int IntKind.i64 n5, Value.int IntKind.i64 n6, Value.int IntKind.i64 n7, Value.int IntKind.i64 n8, Value.int IntKind.i64 n9, Value.int IntKind.i64 n10, Value.int IntKind.i64 n11, Value.int IntKind.i64 n12, Value.string s13, Value.string s14, Value.int IntKind.i64 n15, Value.int IntKind.i64 n16, Value.string s17, Value.int IntKind.i64 n18, Value.int IntKind.i64 n19, Value.int IntKind.i64 n20, Value.int IntKind.i64 n21, Value.int IntKind.i64 n22, Value.int IntKind.i64 n23, Value.int IntKind.i64 n24, Value.string s25, Value.string s26, Value.int IntKind.i64 n27, Value.int IntKind.i64 n28, Value.slice p29 k30 k31, Value.int IntKind.i64 n32, Value.int IntKind.i64 n33, Value.int IntKind.i64 n34, Value.int IntKind.i64 n35]) ∧
 R (Ending.returned (Value.tuple #[Value.agg #[Value.int IntKind.i64 n5, Value.int IntKind.i64 n6, Value.int IntKind.i64 n7, Value.int IntKind.i64 n8, Value.int IntKind.i64 n9, Value.int IntKind.i64 n10, Value.int IntKind.i64 n11, Value.int IntKind.i64 n12, Value.string s13, Value.string s14, Value.int IntKind.i64 n15, Value.int IntKind.i64 n16, Value.string s17, Value.int IntKind.i64 n18, Value.int IntKind.i64 n19, Value.int IntKind.i64 n20, Value.int IntKind.i64 n21, Value.int IntKind.i64 n22, Value.int IntKind.i64 n23, Value.int IntKind.i64 n24, Value.string s25, Value.string s26, Value.int IntKind.i64 n27, Value.int IntKind.i64 n28, Value.slice p29 k30 k31, Value.int IntKind.i64 n32, Value.int IntKind.i64 n33, Value.int IntKind.i64 n34, Value.int IntKind.i64 n35], Value.int IntKind.i64 (10 : Int)])) w4)
 (
 LetA (Obj.cells #[Value.string s1, Value.bool true] (87 : Nat)) w3 fun b36 w37 =>
 Ca Try.prog (74 : Nat) #[Value.pointer (some { block := b36, off := (0 : Nat) })] w37 fun e38 w39 =>
 ∃ n40 : Int,
 (
 e38 = Ending.returned (Value.int IntKind.i64 n40)) ∧
 LetA (Obj.cells #[Value.int IntKind.i64 (0 : Int), Value.int IntKind.i64 (0 : Int), Value.int IntKind.i64 (0 : Int), Value.int IntKind.i64 (0 : Int), Value.int IntKind.i64 (0 : Int), Value.int IntKind.i64 (0 : Int), Value.int IntKind.i64 (0 : Int), Value.int IntKind.i64 (0 : Int), Value.string { data := #[] }, Value.string { data := #[] }, Value.int IntKind.i64 (0 : Int), Value.int IntKind.i64 (0 : Int), Value.string { data := #[] }, Value.int IntKind.i64 (0 : Int), Value.int IntKind.i64 (0 : Int), Value.int IntKind.i64 (0 : Int), Value.int IntKind.i64 (0 : Int), Value.int IntKind.i64 (0 : Int), Value.int IntKind.i64 (0 : Int), Value.int IntKind.i64 (0 : Int), Value.string { data := #[] }, Value.string { data := #[] }, Value.int IntKind.i64 (0 : Int), Value.int IntKind.i64 (0 : Int), Value.slice none (0 : Nat) (0 : Nat), Value.int IntKind.i64 (0 : Int), Value.int IntKind.i64 (0 : Int), Value.int IntKind.i64 (0 : Int), Value.int IntKind.i64 (0 : Int)] (58 : Nat)) w39 fun b41 w42 =>
 (
 WrRow w42 { block := b41, off := (0 : Nat) } (0 : Nat) [Value.int IntKind.i64 n40, Value.int IntKind.i64 (0 : Int), Value.int IntKind.i64 (0 : Int), Value.int IntKind.i64 (0 : Int), Value.int IntKind.i64 (0 : Int), Value.int IntKind.i64 (0 : Int), Value.int IntKind.i64 (0 : Int), Value.int IntKind.i64 (0 : Int), Value.string { data := #[] }, Value.string { data := #[] }, Value.int IntKind.i64 (0 : Int), Value.int IntKind.i64 (0 : Int), Value.string { data := #[] }, Value.int IntKind.i64 (0 : Int), Value.int IntKind.i64 (0 : Int), Value.int IntKind.i64 (0 : Int), Value.int IntKind.i64 (0 : Int), Value.int IntKind.i64 (0 : Int), Value.int IntKind.i64 (0 : Int), Value.int IntKind.i64 (0 : Int), Value.string { data := #[] }, Value.string { data := #[] }, Value.int IntKind.i64 (0 : Int), Value.int IntKind.i64 (0 : Int), Value.slice none (0 : Nat) (0 : Nat), Value.int IntKind.i64 (0 : Int), Value.int IntKind.i64 (0 : Int), Value.int IntKind.i64 (0 : Int), Value.int IntKind.i64 (0 : Int)]) ∧
 LetW (setRow w42 { block := b41, off := (0 : Nat) } (0 : Nat) [Value.int IntKind.i64 n40, Value.int IntKind.i64 (0 : Int), Value.int IntKind.i64 (0 : Int), Value.int IntKind.i64 (0 : Int), Value.int IntKind.i64 (0 : Int), Value.int IntKind.i64 (0 : Int), Value.int IntKind.i64 (0 : Int), Value.int IntKind.i64 (0 : Int), Value.string { data := #[] }, Value.string { data := #[] }, Value.int IntKind.i64 (0 : Int), Value.int IntKind.i64 (0 : Int), Value.string { data := #[] }, Value.int IntKind.i64 (0 : Int), Value.int IntKind.i64 (0 : Int), Value.int IntKind.i64 (0 : Int), Value.int IntKind.i64 (0 : Int), Value.int IntKind.i64 (0 : Int), Value.int IntKind.i64 (0 : Int), Value.int IntKind.i64 (0 : Int), Value.string { data := #[] }, Value.string { data := #[] }, Value.int IntKind.i64 (0 : Int), Value.int IntKind.i64 (0 : Int), Value.slice none (0 : Nat) (0 : Nat), Value.int IntKind.i64 (0 : Int), Value.int IntKind.i64 (0 : Int), Value.int IntKind.i64 (0 : Int), Value.int IntKind.i64 (0 : Int)]) fun w43 =>
 ∃ n44 : Int,
 (
 w43.cell? { block := b41, off := (0 : Nat) } = some (Value.int IntKind.i64 n44)) ∧
 Ca Try.prog (75 : Nat) #[Value.int IntKind.i64 n44] w43 fun e45 w46 =>
 ∃ p47 : Option Addr,
 ∃ k48 : Nat,
 ∃ k49 : Nat,
 (
 e45 = Ending.returned (Value.slice p47 k48 k49)) ∧
 ∃ I50 : Nat → List Value → World → Prop,
 (
 ∃ k51 : Nat,
 I50 k51 [Value.int IntKind.i64 (0 : Int)] w46) ∧
 ∀ n52 : Int,
 ∀ k53 : Nat,
 ∀ w54 : World,
 (
 I50 k53 [Value.int IntKind.i64 n52] w54) →
 Br (decide (n52 < (↑k48 : Int)))
 (
 NilOk p47 fun a55 =>
 (
 (
 (0 : Int) ≤ n52) ∧
 n52 < (↑k48 : Int)) ∧
 ∃ k56 : FuncId,
 ∃ x57 : Array Value,
 ∃ x58 : Array Value,
 (
 w54.cell? (a55.add (n52.toNat * (1 : Nat))) = some (Value.func (Fn.func k56) x57 x58)) ∧
 Br (calleeOk Try.prog k56)
 (
 Ca Try.prog k56 (x57.toList ++ [Value.pointer (some { block := b41, off := (0 : Nat) })] ++ x58.toList).toArray w54 fun e59 w60 =>
 ∃ p61 : Option Addr,
 (
 e59 = Ending.returned (Value.pointer p61)) ∧
 Ca Try.prog (74 : Nat) #[Value.pointer (some { block := b36, off := (0 : Nat) })] w60 fun e62 w63 =>
 ∃ n64 : Int,
 (
 e62 = Ending.returned (Value.int IntKind.i64 n64)) ∧
 NilOk p61 fun a65 =>
 (
 Wr w63 a65) ∧
 LetW (w63.setCell a65 (Value.int IntKind.i64 n64)) fun w66 =>
 LetI (IntKind.i64.wrap (n52 + (1 : Int))) fun n67 =>
 ∃ k68 : Nat,
 (
 k68 < k53) ∧
 I50 k68 [Value.int IntKind.i64 n67] w66)
 (
 RunsX Try.prog k56 (x57.toList ++ [Value.pointer (some { block := b41, off := (0 : Nat) })] ++ x58.toList).toArray w54 fun v69 w70 =>
 ∃ p71 : Option Addr,
 (
 v69 = Value.pointer p71) ∧
 Ca Try.prog (74 : Nat) #[Value.pointer (some { block := b36, off := (0 : Nat) })] w70 fun e72 w73 =>
 ∃ n74 : Int,
 (
 e72 = Ending.returned (Value.int IntKind.i64 n74)) ∧
 NilOk p71 fun a75 =>
 (
 Wr w73 a75) ∧
 LetW (w73.setCell a75 (Value.int IntKind.i64 n74)) fun w76 =>
 LetI (IntKind.i64.wrap (n52 + (1 : Int))) fun n77 =>
 ∃ k78 : Nat,
 (
 k78 < k53) ∧
 I50 k78 [Value.int IntKind.i64 n77] w76))
 (
 ∃ I79 : List Value → World → Prop,
 (
 ∃ n80 : Int,
 (
 w54.cell? { block := b41, off := (0 : Nat) } = some (Value.int IntKind.i64 n80)) ∧
 Br (n80 == (1 : Int))
 (
 Ca Try.prog (76 : Nat) #[Value.pointer (some { block := b36, off := (0 : Nat) })] w54 fun e81 w82 =>
 ∃ n83 : Int,
 ∃ s84 : ByteArray,
 ∃ s85 : ByteArray,
 ∃ n86 : Int,
 (
 e81 = Ending.returned (Value.agg #[Value.int IntKind.i64 n83, Value.string s84, Value.string s85, Value.int IntKind.i64 n86])) ∧
 (
 WrRow w82 { block := b41, off := (7 : Nat) } (0 : Nat) [Value.int IntKind.i64 n83, Value.string s84, Value.string s85, Value.int IntKind.i64 n86]) ∧
 LetW (setRow w82 { block := b41, off := (7 : Nat) } (0 : Nat) [Value.int IntKind.i64 n83, Value.string s84, Value.string s85, Value.int IntKind.i64 n86]) fun w87 =>
 I79 [] w87)
 (
 Br (n80 == (2 : Int))
 (
 Ca Try.prog (74 : Nat) #[Value.pointer (some { block := b36, off := (0 : Nat) })] w54 fun e88 w89 =>
 ∃ n90 : Int,
 (
 e88 = Ending.returned (Value.int IntKind.i64 n90)) ∧
 Ca Try.prog (77 : Nat) #[Value.pointer (some { block := b36, off := (0 : Nat) })] w89 fun e91 w92 =>
 ∃ s93 : ByteArray,
 (
 e91 = Ending.returned (Value.string s93)) ∧
 Ca Try.prog (74 : Nat) #[Value.pointer (some { block := b36, off := (0 : Nat) })] w92 fun e94 w95 =>
 ∃ n96 : Int,
 (
 e94 = Ending.returned (Value.int IntKind.i64 n96)) ∧
 Ca Try.prog (74 : Nat) #[Value.pointer (some { block := b36, off := (0 : Nat) })] w95 fun e97 w98 =>
 ∃ n99 : Int,
 (
 e97 = Ending.returned (Value.int IntKind.i64 n99)) ∧
 (
 WrRow w98 { block := b41, off := (11 : Nat) } (0 : Nat) [Value.int IntKind.i64 n90, Value.string s93, Value.int IntKind.i64 n96, Value.int IntKind.i64 n99]) ∧
 LetW (setRow w98 { block := b41, off := (11 : Nat) } (0 : Nat) [Value.int IntKind.i64 n90, Value.string s93, Value.int IntKind.i64 n96, Value.int IntKind.i64 n99]) fun w100 =>
 I79 [] w100)
 (
 Br (n80 == (4 : Int))
 (
 Ca Try.prog (74 : Nat) #[Value.pointer (some { block := b36, off := (0 : Nat) })] w54 fun e101 w102 =>
 ∃ n103 : Int,
 (
 e101 = Ending.returned (Value.int IntKind.i64 n103)) ∧
 Ca Try.prog (74 : Nat) #[Value.pointer (some { block := b36, off := (0 : Nat) })] w102 fun e104 w105 =>
 ∃ n106 : Int,
 (
 e104 = Ending.returned (Value.int IntKind.i64 n106)) ∧
 Ca Try.prog (74 : Nat) #[Value.pointer (some { block := b36, off := (0 : Nat) })] w105 fun e107 w108 =>
 ∃ n109 : Int,
 (
 e107 = Ending.returned (Value.int IntKind.i64 n109)) ∧
 Ca Try.prog (76 : Nat) #[Value.pointer (some { block := b36, off := (0 : Nat) })] w108 fun e110 w111 =>
 ∃ n112 : Int,
 ∃ s113 : ByteArray,
 ∃ s114 : ByteArray,
 ∃ n115 : Int,
 (
 e110 = Ending.returned (Value.agg #[Value.int IntKind.i64 n112, Value.string s113, Value.string s114, Value.int IntKind.i64 n115])) ∧
 (
 WrRow w111 { block := b41, off := (16 : Nat) } (0 : Nat) [Value.int IntKind.i64 n103, Value.int IntKind.i64 n106, Value.int IntKind.i64 n109, Value.int IntKind.i64 n112, Value.string s113, Value.string s114, Value.int IntKind.i64 n115]) ∧
 LetW (setRow w111 { block := b41, off := (16 : Nat) } (0 : Nat) [Value.int IntKind.i64 n103, Value.int IntKind.i64 n106, Value.int IntKind.i64 n109, Value.int IntKind.i64 n112, Value.string s113, Value.string s114, Value.int IntKind.i64 n115]) fun w116 =>
 I79 [] w116)
 (
 Br (n80 == (8 : Int))
 (
 ∃ s117 : ByteArray,
 (
 w54.cell? { block := b36, off := (0 : Nat) } = some (Value.string s117)) ∧
 Ca Try.prog (41 : Nat) #[Value.string s117] w54 fun e118 w119 =>
 ∃ n120 : Int,
 ∃ p121 : Option Addr,
 ∃ k122 : Nat,
 ∃ k123 : Nat,
 ∃ n124 : Int,
 ∃ n125 : Int,
 (
 e118 = Ending.returned (Value.tuple #[Value.agg #[Value.int IntKind.i64 n120, Value.slice p121 k122 k123, Value.int IntKind.i64 n124], Value.int IntKind.i64 n125])) ∧
 LetA (Obj.cells #[Value.int IntKind.i64 (0 : Int), Value.slice none (0 : Nat) (0 : Nat), Value.int IntKind.i64 (0 : Int)] (37 : Nat)) w119 fun b126 w127 =>
 (
 WrRow w127 { block := b126, off := (0 : Nat) } (0 : Nat) [Value.int IntKind.i64 n120, Value.slice p121 k122 k123, Value.int IntKind.i64 n124]) ∧
 LetW (setRow w127 { block := b126, off := (0 : Nat) } (0 : Nat) [Value.int IntKind.i64 n120, Value.slice p121 k122 k123, Value.int IntKind.i64 n124]) fun w128 =>
 ∃ n129 : Int,
 ∃ p130 : Option Addr,
 ∃ k131 : Nat,
 ∃ k132 : Nat,
 ∃ n133 : Int,
 (
 Row w128 { block := b126, off := (0 : Nat) } (0 : Nat) [Value.int IntKind.i64 n129, Value.slice p130 k131 k132, Value.int IntKind.i64 n133]) ∧
 ∃ b134 : Bool,
 (
 w128.cell? { block := b36, off := (1 : Nat) } = some (Value.bool b134)) ∧
 Br (b134)
 (
 (
 WrRow w128 { block := b41, off := (23 : Nat) } (0 : Nat) [Value.int IntKind.i64 n129, Value.slice p130 k131 k132, Value.int IntKind.i64 n133]) ∧
 LetW (setRow w128 { block := b41, off := (23 : Nat) } (0 : Nat) [Value.int IntKind.i64 n129, Value.slice p130 k131 k132, Value.int IntKind.i64 n133]) fun w135 =>
 (
 Wr w135 { block := b36, off := (0 : Nat) }) ∧
 LetW (w135.setCell { block := b36, off := (0 : Nat) } (Value.string { data := #[] })) fun w136 =>
 (
 Wr w136 { block := b36, off := (1 : Nat) }) ∧
 LetW (w136.setCell { block := b36, off := (1 : Nat) } (Value.bool (n125 == (0 : Int)))) fun w137 =>
 I79 [] w137)
 (
 (
 WrRow w128 { block := b41, off := (23 : Nat) } (0 : Nat) [Value.int IntKind.i64 n129, Value.slice p130 k131 k132, Value.int IntKind.i64 n133]) ∧
 LetW (setRow w128 { block := b41, off := (23 : Nat) } (0 : Nat) [Value.int IntKind.i64 n129, Value.slice p130 k131 k132, Value.int IntKind.i64 n133]) fun w138 =>
 (
 Wr w138 { block := b36, off := (0 : Nat) }) ∧
 LetW (w138.setCell { block := b36, off := (0 : Nat) } (Value.string { data := #[] })) fun w139 =>
 (
 Wr w139 { block := b36, off := (1 : Nat) }) ∧
 LetW (w139.setCell { block := b36, off := (1 : Nat) } (Value.bool false)) fun w140 =>
 I79 [] w140))
 (
 I79 [] w54))))) ∧
 ∀ w141 : World,
 (
 I79 [] w141) →
 ∃ n142 : Int,
 ∃ n143 : Int,
 ∃ n144 : Int,
 ∃ n145 : Int,
 ∃ n146 : Int,
 ∃ n147 : Int,
 ∃ n148 : Int,
 ∃ n149 : Int,
 ∃ s150 : ByteArray,
 ∃ s151 : ByteArray,
 ∃ n152 : Int,
 ∃ n153 : Int,
 ∃ s154 : ByteArray,
 ∃ n155 : Int,
 ∃ n156 : Int,
 ∃ n157 : Int,
 ∃ n158 : Int,
 ∃ n159 : Int,
 ∃ n160 : Int,
 ∃ n161 : Int,
 ∃ s162 : ByteArray,
 ∃ s163 : ByteArray,
 ∃ n164 : Int,
 ∃ n165 : Int,
 ∃ p166 : Option Addr,
 ∃ k167 : Nat,
 ∃ k168 : Nat,
 ∃ n169 : Int,
 ∃ n170 : Int,
 ∃ n171 : Int,
 ∃ n172 : Int,
 (
 Row w141 { block := b41, off := (0 : Nat) } (0 : Nat) [Value.int IntKind.i64 n142, Value.int IntKind.i64 n143, Value.int IntKind.i64 n144, Value.int IntKind.i64 n145, Value.int IntKind.i64 n146, Value.int IntKind.i64 n147, Value.int IntKind.i64 n148, Value.int IntKind.i64 n149, Value.string s150, Value.string s151, Value.int IntKind.i64 n152, Value.int IntKind.i64 n153, Value.string s154, Value.int IntKind.i64 n155, Value.int IntKind.i64 n156, Value.int IntKind.i64 n157, Value.int IntKind.i64 n158, Value.int IntKind.i64 n159, Value.int IntKind.i64 n160, Value.int IntKind.i64 n161, Value.string s162, Value.string s163, Value.int IntKind.i64 n164, Value.int IntKind.i64 n165, Value.slice p166 k167 k168, Value.int IntKind.i64 n169, Value.int IntKind.i64 n170, Value.int IntKind.i64 n171, Value.int IntKind.i64 n172]) ∧
 Ca Try.prog (50 : Nat) #[Value.agg #[Value.int IntKind.i64 n142, Value.int IntKind.i64 n143, Value.int IntKind.i64 n144, Value.int IntKind.i64 n145, Value.int IntKind.i64 n146, Value.int IntKind.i64 n147, Value.int IntKind.i64 n148, Value.int IntKind.i64 n149, Value.string s150, Value.string s151, Value.int IntKind.i64 n152, Value.int IntKind.i64 n153, Value.string s154, Value.int IntKind.i64 n155, Value.int IntKind.i64 n156, Value.int IntKind.i64 n157, Value.int IntKind.i64 n158, Value.int IntKind.i64 n159, Value.int IntKind.i64 n160, Value.int IntKind.i64 n161, Value.string s162, Value.string s163, Value.int IntKind.i64 n164, Value.int IntKind.i64 n165, Value.slice p166 k167 k168, Value.int IntKind.i64 n169, Value.int IntKind.i64 n170, Value.int IntKind.i64 n171, Value.int IntKind.i64 n172]] w141 fun e173 w174 =>
 ∃ s175 : ByteArray,
 ∃ n176 : Int,
 (
 e173 = Ending.returned (Value.tuple #[Value.string s175, Value.int IntKind.i64 n176])) ∧
 ∃ b177 : Bool,
 (
 w174.cell? { block := b36, off := (1 : Nat) } = some (Value.bool b177)) ∧
 Br (!b177)
 (
 (
 WrRow w174 { block := b2, off := (0 : Nat) } (0 : Nat) [Value.int IntKind.i64 (0 : Int), Value.int IntKind.i64 (0 : Int), Value.int IntKind.i64 (0 : Int), Value.int IntKind.i64 (0 : Int), Value.int IntKind.i64 (0 : Int), Value.int IntKind.i64 (0 : Int), Value.int IntKind.i64 (0 : Int), Value.int IntKind.i64 (0 : Int), Value.string { data := #[] }, Value.string { data := #[] }, Value.int IntKind.i64 (0 : Int), Value.int IntKind.i64 (0 : Int), Value.string { data := #[] }, Value.int IntKind.i64 (0 : Int), Value.int IntKind.i64 (0 : Int), Value.int IntKind.i64 (0 : Int), Value.int IntKind.i64 (0 : Int), Value.int IntKind.i64 (0 : Int), Value.int IntKind.i64 (0 : Int), Value.int IntKind.i64 (0 : Int), Value.string { data := #[] }, Value.string { data := #[] }, Value.int IntKind.i64 (0 : Int), Value.int IntKind.i64 (0 : Int), Value.slice none (0 : Nat) (0 : Nat), Value.int IntKind.i64 (0 : Int), Value.int IntKind.i64 (0 : Int), Value.int IntKind.i64 (0 : Int), Value.int IntKind.i64 (0 : Int)]) ∧
 LetW (setRow w174 { block := b2, off := (0 : Nat) } (0 : Nat) [Value.int IntKind.i64 (0 : Int), Value.int IntKind.i64 (0 : Int), Value.int IntKind.i64 (0 : Int), Value.int IntKind.i64 (0 : Int), Value.int IntKind.i64 (0 : Int), Value.int IntKind.i64 (0 : Int), Value.int IntKind.i64 (0 : Int), Value.int IntKind.i64 (0 : Int), Value.string { data := #[] }, Value.string { data := #[] }, Value.int IntKind.i64 (0 : Int), Value.int IntKind.i64 (0 : Int), Value.string { data := #[] }, Value.int IntKind.i64 (0 : Int), Value.int IntKind.i64 (0 : Int), Value.int IntKind.i64 (0 : Int), Value.int IntKind.i64 (0 : Int), Value.int IntKind.i64 (0 : Int), Value.int IntKind.i64 (0 : Int), Value.int IntKind.i64 (0 : Int), Value.string { data := #[] }, Value.string { data := #[] }, Value.int IntKind.i64 (0 : Int), Value.int IntKind.i64 (0 : Int), Value.slice none (0 : Nat) (0 : Nat), Value.int IntKind.i64 (0 : Int), Value.int IntKind.i64 (0 : Int), Value.int IntKind.i64 (0 : Int), Value.int IntKind.i64 (0 : Int)]) fun w178 =>
 ∃ n179 : Int,
 ∃ n180 : Int,
 ∃ n181 : Int,
 ∃ n182 : Int,
 ∃ n183 : Int,
 ∃ n184 : Int,
 ∃ n185 : Int,
 ∃ n186 : Int,
 ∃ s187 : ByteArray,
 ∃ s188 : ByteArray,
 ∃ n189 : Int,
 ∃ n190 : Int,
 ∃ s191 : ByteArray,
 ∃ n192 : Int,
 ∃ n193 : Int,
 ∃ n194 : Int,
 ∃ n195 : Int,
 ∃ n196 : Int,
 ∃ n197 : Int,
 ∃ n198 : Int,
 ∃ s199 : ByteArray,
 ∃ s200 : ByteArray,
 ∃ n201 : Int,
 ∃ n202 : Int,
 ∃ p203 : Option Addr,
 ∃ k204 : Nat,
 ∃ k205 : Nat,
 ∃ n206 : Int,
 ∃ n207 : Int,
 ∃ n208 : Int,
 ∃ n209 : Int,
 (
 Row w178 { block := b2, off := (0 : Nat) } (0 : Nat) [Value.int IntKind.i64 n179, Value.int IntKind.i64 n180, Value.int IntKind.i64 n181, Value.int IntKind.i64 n182, Value.int IntKind.i64 n183, Value.int IntKind.i64 n184, Value.int IntKind.i64 n185, Value.int IntKind.i64 n186, Value.string s187, Value.string s188, Value.int IntKind.i64 n189, Value.int IntKind.i64 n190, Value.string s191, Value.int IntKind.i64 n192, Value.int IntKind.i64 n193, Value.int IntKind.i64 n194, Value.int IntKind.i64 n195, Value.int IntKind.i64 n196, Value.int IntKind.i64 n197, Value.int IntKind.i64 n198, Value.string s199, Value.string s200, Value.int IntKind.i64 n201, Value.int IntKind.i64 n202, Value.slice p203 k204 k205, Value.int IntKind.i64 n206, Value.int IntKind.i64 n207, Value.int IntKind.i64 n208, Value.int IntKind.i64 n209]) ∧
 R (Ending.returned (Value.tuple #[Value.agg #[Value.int IntKind.i64 n179, Value.int IntKind.i64 n180, Value.int IntKind.i64 n181, Value.int IntKind.i64 n182, Value.int IntKind.i64 n183, Value.int IntKind.i64 n184, Value.int IntKind.i64 n185, Value.int IntKind.i64 n186, Value.string s187, Value.string s188, Value.int IntKind.i64 n189, Value.int IntKind.i64 n190, Value.string s191, Value.int IntKind.i64 n192, Value.int IntKind.i64 n193, Value.int IntKind.i64 n194, Value.int IntKind.i64 n195, Value.int IntKind.i64 n196, Value.int IntKind.i64 n197, Value.int IntKind.i64 n198, Value.string s199, Value.string s200, Value.int IntKind.i64 n201, Value.int IntKind.i64 n202, Value.slice p203 k204 k205, Value.int IntKind.i64 n206, Value.int IntKind.i64 n207, Value.int IntKind.i64 n208, Value.int IntKind.i64 n209], Value.int IntKind.i64 (10 : Int)])) w178)
 (
 Br (n176 != (0 : Int))
 (
 (
 WrRow w174 { block := b2, off := (0 : Nat) } (0 : Nat) [Value.int IntKind.i64 (0 : Int), Value.int IntKind.i64 (0 : Int), Value.int IntKind.i64 (0 : Int), Value.int IntKind.i64 (0 : Int), Value.int IntKind.i64 (0 : Int), Value.int IntKind.i64 (0 : Int), Value.int IntKind.i64 (0 : Int), Value.int IntKind.i64 (0 : Int), Value.string { data := #[] }, Value.string { data := #[] }, Value.int IntKind.i64 (0 : Int), Value.int IntKind.i64 (0 : Int), Value.string { data := #[] }, Value.int IntKind.i64 (0 : Int), Value.int IntKind.i64 (0 : Int), Value.int IntKind.i64 (0 : Int), Value.int IntKind.i64 (0 : Int), Value.int IntKind.i64 (0 : Int), Value.int IntKind.i64 (0 : Int), Value.int IntKind.i64 (0 : Int), Value.string { data := #[] }, Value.string { data := #[] }, Value.int IntKind.i64 (0 : Int), Value.int IntKind.i64 (0 : Int), Value.slice none (0 : Nat) (0 : Nat), Value.int IntKind.i64 (0 : Int), Value.int IntKind.i64 (0 : Int), Value.int IntKind.i64 (0 : Int), Value.int IntKind.i64 (0 : Int)]) ∧
 LetW (setRow w174 { block := b2, off := (0 : Nat) } (0 : Nat) [Value.int IntKind.i64 (0 : Int), Value.int IntKind.i64 (0 : Int), Value.int IntKind.i64 (0 : Int), Value.int IntKind.i64 (0 : Int), Value.int IntKind.i64 (0 : Int), Value.int IntKind.i64 (0 : Int), Value.int IntKind.i64 (0 : Int), Value.int IntKind.i64 (0 : Int), Value.string { data := #[] }, Value.string { data := #[] }, Value.int IntKind.i64 (0 : Int), Value.int IntKind.i64 (0 : Int), Value.string { data := #[] }, Value.int IntKind.i64 (0 : Int), Value.int IntKind.i64 (0 : Int), Value.int IntKind.i64 (0 : Int), Value.int IntKind.i64 (0 : Int), Value.int IntKind.i64 (0 : Int), Value.int IntKind.i64 (0 : Int), Value.int IntKind.i64 (0 : Int), Value.string { data := #[] }, Value.string { data := #[] }, Value.int IntKind.i64 (0 : Int), Value.int IntKind.i64 (0 : Int), Value.slice none (0 : Nat) (0 : Nat), Value.int IntKind.i64 (0 : Int), Value.int IntKind.i64 (0 : Int), Value.int IntKind.i64 (0 : Int), Value.int IntKind.i64 (0 : Int)]) fun w210 =>
 ∃ n211 : Int,
 ∃ n212 : Int,
 ∃ n213 : Int,
 ∃ n214 : Int,
 ∃ n215 : Int,
 ∃ n216 : Int,
 ∃ n217 : Int,
 ∃ n218 : Int,
 ∃ s219 : ByteArray,
 ∃ s220 : ByteArray,
 ∃ n221 : Int,
 ∃ n222 : Int,
 ∃ s223 : ByteArray,
 ∃ n224 : Int,
 ∃ n225 : Int,
 ∃ n226 : Int,
 ∃ n227 : Int,
 ∃ n228 : Int,
 ∃ n229 : Int,
 ∃ n230 : Int,
 ∃ s231 : ByteArray,
 ∃ s232 : ByteArray,
 ∃ n233 : Int,
 ∃ n234 : Int,
 ∃ p235 : Option Addr,
 ∃ k236 : Nat,
 ∃ k237 : Nat,
 ∃ n238 : Int,
 ∃ n239 : Int,
 ∃ n240 : Int,
 ∃ n241 : Int,
 (
 Row w210 { block := b2, off := (0 : Nat) } (0 : Nat) [Value.int IntKind.i64 n211, Value.int IntKind.i64 n212, Value.int IntKind.i64 n213, Value.int IntKind.i64 n214, Value.int IntKind.i64 n215, Value.int IntKind.i64 n216, Value.int IntKind.i64 n217, Value.int IntKind.i64 n218, Value.string s219, Value.string s220, Value.int IntKind.i64 n221, Value.int IntKind.i64 n222, Value.string s223, Value.int IntKind.i64 n224, Value.int IntKind.i64 n225, Value.int IntKind.i64 n226, Value.int IntKind.i64 n227, Value.int IntKind.i64 n228, Value.int IntKind.i64 n229, Value.int IntKind.i64 n230, Value.string s231, Value.string s232, Value.int IntKind.i64 n233, Value.int IntKind.i64 n234, Value.slice p235 k236 k237, Value.int IntKind.i64 n238, Value.int IntKind.i64 n239, Value.int IntKind.i64 n240, Value.int IntKind.i64 n241]) ∧
 R (Ending.returned (Value.tuple #[Value.agg #[Value.int IntKind.i64 n211, Value.int IntKind.i64 n212, Value.int IntKind.i64 n213, Value.int IntKind.i64 n214, Value.int IntKind.i64 n215, Value.int IntKind.i64 n216, Value.int IntKind.i64 n217, Value.int IntKind.i64 n218, Value.string s219, Value.string s220, Value.int IntKind.i64 n221, Value.int IntKind.i64 n222, Value.string s223, Value.int IntKind.i64 n224, Value.int IntKind.i64 n225, Value.int IntKind.i64 n226, Value.int IntKind.i64 n227, Value.int IntKind.i64 n228, Value.int IntKind.i64 n229, Value.int IntKind.i64 n230, Value.string s231, Value.string s232, Value.int IntKind.i64 n233, Value.int IntKind.i64 n234, Value.slice p235 k236 k237, Value.int IntKind.i64 n238, Value.int IntKind.i64 n239, Value.int IntKind.i64 n240, Value.int IntKind.i64 n241], Value.int IntKind.i64 (10 : Int)])) w210)
 (
 Br (!s175.toList == s1.toList)
 (
 (
 WrRow w174 { block := b2, off := (0 : Nat) } (0 : Nat) [Value.int IntKind.i64 (0 : Int), Value.int IntKind.i64 (0 : Int), Value.int IntKind.i64 (0 : Int), Value.int IntKind.i64 (0 : Int), Value.int IntKind.i64 (0 : Int), Value.int IntKind.i64 (0 : Int), Value.int IntKind.i64 (0 : Int), Value.int IntKind.i64 (0 : Int), Value.string { data := #[] }, Value.string { data := #[] }, Value.int IntKind.i64 (0 : Int), Value.int IntKind.i64 (0 : Int), Value.string { data := #[] }, Value.int IntKind.i64 (0 : Int), Value.int IntKind.i64 (0 : Int), Value.int IntKind.i64 (0 : Int), Value.int IntKind.i64 (0 : Int), Value.int IntKind.i64 (0 : Int), Value.int IntKind.i64 (0 : Int), Value.int IntKind.i64 (0 : Int), Value.string { data := #[] }, Value.string { data := #[] }, Value.int IntKind.i64 (0 : Int), Value.int IntKind.i64 (0 : Int), Value.slice none (0 : Nat) (0 : Nat), Value.int IntKind.i64 (0 : Int), Value.int IntKind.i64 (0 : Int), Value.int IntKind.i64 (0 : Int), Value.int IntKind.i64 (0 : Int)]) ∧
 LetW (setRow w174 { block := b2, off := (0 : Nat) } (0 : Nat) [Value.int IntKind.i64 (0 : Int), Value.int IntKind.i64 (0 : Int), Value.int IntKind.i64 (0 : Int), Value.int IntKind.i64 (0 : Int), Value.int IntKind.i64 (0 : Int), Value.int IntKind.i64 (0 : Int), Value.int IntKind.i64 (0 : Int), Value.int IntKind.i64 (0 : Int), Value.string { data := #[] }, Value.string { data := #[] }, Value.int IntKind.i64 (0 : Int), Value.int IntKind.i64 (0 : Int), Value.string { data := #[] }, Value.int IntKind.i64 (0 : Int), Value.int IntKind.i64 (0 : Int), Value.int IntKind.i64 (0 : Int), Value.int IntKind.i64 (0 : Int), Value.int IntKind.i64 (0 : Int), Value.int IntKind.i64 (0 : Int), Value.int IntKind.i64 (0 : Int), Value.string { data := #[] }, Value.string { data := #[] }, Value.int IntKind.i64 (0 : Int), Value.int IntKind.i64 (0 : Int), Value.slice none (0 : Nat) (0 : Nat), Value.int IntKind.i64 (0 : Int), Value.int IntKind.i64 (0 : Int), Value.int IntKind.i64 (0 : Int), Value.int IntKind.i64 (0 : Int)]) fun w242 =>
 ∃ n243 : Int,
 ∃ n244 : Int,
 ∃ n245 : Int,
 ∃ n246 : Int,
 ∃ n247 : Int,
 ∃ n248 : Int,
 ∃ n249 : Int,
 ∃ n250 : Int,
 ∃ s251 : ByteArray,
 ∃ s252 : ByteArray,
 ∃ n253 : Int,
 ∃ n254 : Int,
 ∃ s255 : ByteArray,
 ∃ n256 : Int,
 ∃ n257 : Int,
 ∃ n258 : Int,
 ∃ n259 : Int,
 ∃ n260 : Int,
 ∃ n261 : Int,
 ∃ n262 : Int,
 ∃ s263 : ByteArray,
 ∃ s264 : ByteArray,
 ∃ n265 : Int,
 ∃ n266 : Int,
 ∃ p267 : Option Addr,
 ∃ k268 : Nat,
 ∃ k269 : Nat,
 ∃ n270 : Int,
 ∃ n271 : Int,
 ∃ n272 : Int,
 ∃ n273 : Int,
 (
 Row w242 { block := b2, off := (0 : Nat) } (0 : Nat) [Value.int IntKind.i64 n243, Value.int IntKind.i64 n244, Value.int IntKind.i64 n245, Value.int IntKind.i64 n246, Value.int IntKind.i64 n247, Value.int IntKind.i64 n248, Value.int IntKind.i64 n249, Value.int IntKind.i64 n250, Value.string s251, Value.string s252, Value.int IntKind.i64 n253, Value.int IntKind.i64 n254, Value.string s255, Value.int IntKind.i64 n256, Value.int IntKind.i64 n257, Value.int IntKind.i64 n258, Value.int IntKind.i64 n259, Value.int IntKind.i64 n260, Value.int IntKind.i64 n261, Value.int IntKind.i64 n262, Value.string s263, Value.string s264, Value.int IntKind.i64 n265, Value.int IntKind.i64 n266, Value.slice p267 k268 k269, Value.int IntKind.i64 n270, Value.int IntKind.i64 n271, Value.int IntKind.i64 n272, Value.int IntKind.i64 n273]) ∧
 R (Ending.returned (Value.tuple #[Value.agg #[Value.int IntKind.i64 n243, Value.int IntKind.i64 n244, Value.int IntKind.i64 n245, Value.int IntKind.i64 n246, Value.int IntKind.i64 n247, Value.int IntKind.i64 n248, Value.int IntKind.i64 n249, Value.int IntKind.i64 n250, Value.string s251, Value.string s252, Value.int IntKind.i64 n253, Value.int IntKind.i64 n254, Value.string s255, Value.int IntKind.i64 n256, Value.int IntKind.i64 n257, Value.int IntKind.i64 n258, Value.int IntKind.i64 n259, Value.int IntKind.i64 n260, Value.int IntKind.i64 n261, Value.int IntKind.i64 n262, Value.string s263, Value.string s264, Value.int IntKind.i64 n265, Value.int IntKind.i64 n266, Value.slice p267 k268 k269, Value.int IntKind.i64 n270, Value.int IntKind.i64 n271, Value.int IntKind.i64 n272, Value.int IntKind.i64 n273], Value.int IntKind.i64 (10 : Int)])) w242)
 (
 ∃ n274 : Int,
 ∃ n275 : Int,
 ∃ n276 : Int,
 ∃ n277 : Int,
 ∃ n278 : Int,
 ∃ n279 : Int,
 ∃ n280 : Int,
 ∃ n281 : Int,
 ∃ s282 : ByteArray,
 ∃ s283 : ByteArray,
 ∃ n284 : Int,
 ∃ n285 : Int,
 ∃ s286 : ByteArray,
 ∃ n287 : Int,
 ∃ n288 : Int,
 ∃ n289 : Int,
 ∃ n290 : Int,
 ∃ n291 : Int,
 ∃ n292 : Int,
 ∃ n293 : Int,
 ∃ s294 : ByteArray,
 ∃ s295 : ByteArray,
 ∃ n296 : Int,
 ∃ n297 : Int,
 ∃ p298 : Option Addr,
 ∃ k299 : Nat,
 ∃ k300 : Nat,
 ∃ n301 : Int,
 ∃ n302 : Int,
 ∃ n303 : Int,
 ∃ n304 : Int,
 (
 Row w174 { block := b41, off := (0 : Nat) } (0 : Nat) [Value.int IntKind.i64 n274, Value.int IntKind.i64 n275, Value.int IntKind.i64 n276, Value.int IntKind.i64 n277, Value.int IntKind.i64 n278, Value.int IntKind.i64 n279, Value.int IntKind.i64 n280, Value.int IntKind.i64 n281, Value.string s282, Value.string s283, Value.int IntKind.i64 n284, Value.int IntKind.i64 n285, Value.string s286, Value.int IntKind.i64 n287, Value.int IntKind.i64 n288, Value.int IntKind.i64 n289, Value.int IntKind.i64 n290, Value.int IntKind.i64 n291, Value.int IntKind.i64 n292, Value.int IntKind.i64 n293, Value.string s294, Value.string s295, Value.int IntKind.i64 n296, Value.int IntKind.i64 n297, Value.slice p298 k299 k300, Value.int IntKind.i64 n301, Value.int IntKind.i64 n302, Value.int IntKind.i64 n303, Value.int IntKind.i64 n304]) ∧
 (
 WrRow w174 { block := b2, off := (0 : Nat) } (0 : Nat) [Value.int IntKind.i64 n274, Value.int IntKind.i64 n275, Value.int IntKind.i64 n276, Value.int IntKind.i64 n277, Value.int IntKind.i64 n278, Value.int IntKind.i64 n279, Value.int IntKind.i64 n280, Value.int IntKind.i64 n281, Value.string s282, Value.string s283, Value.int IntKind.i64 n284, Value.int IntKind.i64 n285, Value.string s286, Value.int IntKind.i64 n287, Value.int IntKind.i64 n288, Value.int IntKind.i64 n289, Value.int IntKind.i64 n290, Value.int IntKind.i64 n291, Value.int IntKind.i64 n292, Value.int IntKind.i64 n293, Value.string s294, Value.string s295, Value.int IntKind.i64 n296, Value.int IntKind.i64 n297, Value.slice p298 k299 k300, Value.int IntKind.i64 n301, Value.int IntKind.i64 n302, Value.int IntKind.i64 n303, Value.int IntKind.i64 n304]) ∧
 LetW (setRow w174 { block := b2, off := (0 : Nat) } (0 : Nat) [Value.int IntKind.i64 n274, Value.int IntKind.i64 n275, Value.int IntKind.i64 n276, Value.int IntKind.i64 n277, Value.int IntKind.i64 n278, Value.int IntKind.i64 n279, Value.int IntKind.i64 n280, Value.int IntKind.i64 n281, Value.string s282, Value.string s283, Value.int IntKind.i64 n284, Value.int IntKind.i64 n285, Value.string s286, Value.int IntKind.i64 n287, Value.int IntKind.i64 n288, Value.int IntKind.i64 n289, Value.int IntKind.i64 n290, Value.int IntKind.i64 n291, Value.int IntKind.i64 n292, Value.int IntKind.i64 n293, Value.string s294, Value.string s295, Value.int IntKind.i64 n296, Value.int IntKind.i64 n297, Value.slice p298 k299 k300, Value.int IntKind.i64 n301, Value.int IntKind.i64 n302, Value.int IntKind.i64 n303, Value.int IntKind.i64 n304]) fun w305 =>
 ∃ n306 : Int,
 ∃ n307 : Int,
 ∃ n308 : Int,
 ∃ n309 : Int,
 ∃ n310 : Int,
 ∃ n311 : Int,
 ∃ n312 : Int,
 ∃ n313 : Int,
 ∃ s314 : ByteArray,
 ∃ s315 : ByteArray,
 ∃ n316 : Int,
 ∃ n317 : Int,
 ∃ s318 : ByteArray,
 ∃ n319 : Int,
 ∃ n320 : Int,
 ∃ n321 : Int,
 ∃ n322 : Int,
 ∃ n323 : Int,
 ∃ n324 : Int,
 ∃ n325 : Int,
 ∃ s326 : ByteArray,
 ∃ s327 : ByteArray,
 ∃ n328 : Int,
 ∃ n329 : Int,
 ∃ p330 : Option Addr,
 ∃ k331 : Nat,
 ∃ k332 : Nat,
 ∃ n333 : Int,
 ∃ n334 : Int,
 ∃ n335 : Int,
 ∃ n336 : Int,
 (
 Row w305 { block := b2, off := (0 : Nat) } (0 : Nat) [Value.int IntKind.i64 n306, Value.int IntKind.i64 n307, Value.int IntKind.i64 n308, Value.int IntKind.i64 n309, Value.int IntKind.i64 n310, Value.int IntKind.i64 n311, Value.int IntKind.i64 n312, Value.int IntKind.i64 n313, Value.string s314, Value.string s315, Value.int IntKind.i64 n316, Value.int IntKind.i64 n317, Value.string s318, Value.int IntKind.i64 n319, Value.int IntKind.i64 n320, Value.int IntKind.i64 n321, Value.int IntKind.i64 n322, Value.int IntKind.i64 n323, Value.int IntKind.i64 n324, Value.int IntKind.i64 n325, Value.string s326, Value.string s327, Value.int IntKind.i64 n328, Value.int IntKind.i64 n329, Value.slice p330 k331 k332, Value.int IntKind.i64 n333, Value.int IntKind.i64 n334, Value.int IntKind.i64 n335, Value.int IntKind.i64 n336]) ∧
 R (Ending.returned (Value.tuple #[Value.agg #[Value.int IntKind.i64 n306, Value.int IntKind.i64 n307, Value.int IntKind.i64 n308, Value.int IntKind.i64 n309, Value.int IntKind.i64 n310, Value.int IntKind.i64 n311, Value.int IntKind.i64 n312, Value.int IntKind.i64 n313, Value.string s314, Value.string s315, Value.int IntKind.i64 n316, Value.int IntKind.i64 n317, Value.string s318, Value.int IntKind.i64 n319, Value.int IntKind.i64 n320, Value.int IntKind.i64 n321, Value.int IntKind.i64 n322, Value.int IntKind.i64 n323, Value.int IntKind.i64 n324, Value.int IntKind.i64 n325, Value.string s326, Value.string s327, Value.int IntKind.i64 n328, Value.int IntKind.i64 n329, Value.slice p330 k331 k332, Value.int IntKind.i64 n333, Value.int IntKind.i64 n334, Value.int IntKind.i64 n335, Value.int IntKind.i64 n336], Value.int IntKind.i64 (0 : Int)])) w305)))))
theorem fget_ok (s1 : ByteArray) (w : World) (R : Ending → World → Prop) (h : fget s1 w R) : Ca Try.prog 45 #[Value.string s1] w R :=
 Ca.of_fvc (c := bodyOf Try.f45) (by kernel_rfl) Try.func45 (by kernel_rfl) [20] (Eq.mp (by kernel_rfl) h)

end Go.Proofs.Ytbdhdjbdooccoaa
