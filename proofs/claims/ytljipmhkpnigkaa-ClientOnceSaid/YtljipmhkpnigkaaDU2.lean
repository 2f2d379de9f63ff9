/- The verification conditions of this seat's functions, printed by a program; the kernel holds each against the loaded code. -/
import Derived.Test.YtljipmhkpnigkaaProg
import Derived.KernelRfl
import Derived.Test.YtljipmhkpnigkaaV5
set_option maxRecDepth 100000
namespace Go.Proofs.Ytljipmhkpnigkaa
open Go Go.Vc Go.Proofs Go.Value Go.IntKind Go.Ending
def rfit (n1 : Int) (n2 : Int) (n3 : Int) (p4 : Option Addr) (k5 : Nat) (k6 : Nat) (n7 : Int) (n8 : Int) (n9 : Int) (n10 : Int) (n11 : Int) (n12 : Int) (n13 : Int) (n14 : Int) (w : World) (R : Ending → World → Prop) : Prop :=
 LetA (Obj.cells #[int i64 n1, int i64 n2, int i64 n3, slice p4 k5 k6, int i64 n7, int i64 n8, int i64 n9, int i64 n10, int i64 n11, int i64 n12, int i64 n13, int i64 n14] (24 : Nat)) w fun b15 w16 =>
 LetA (Obj.cells #[int i64 (0), int i64 (0), int i64 (0), slice none (0 : Nat) (0 : Nat), int i64 (0), int i64 (0), int i64 (0), int i64 (0), int i64 (0), int i64 (0), int i64 (0), int i64 (0)] (24 : Nat)) w16 fun b17 w18 =>
 ∃ n19 : Int,
 (w18.cell? ⟨b15, 0, none⟩ = some (int i64 n19)) ∧
 Ca Try.prog (50 : Nat) #[int i64 n19, int i64 (1), int i64 (6)] w18 fun e20 w21 =>
 ∃ n22 : Int,
 (e20 = returned (int i64 n22)) ∧
 ∃ n23 : Int,
 (w21.cell? ⟨b15, 1, none⟩ = some (int i64 n23)) ∧
 ∃ n24 : Int,
 (w21.cell? ⟨b15, 2, none⟩ = some (int i64 n24)) ∧
 ∃ n25 : Int,
 (w21.cell? ⟨b15, 4, none⟩ = some (int i64 n25)) ∧
 ∃ n26 : Int,
 (w21.cell? ⟨b15, 5, none⟩ = some (int i64 n26)) ∧
 ∃ n27 : Int,
 (w21.cell? ⟨b15, 6, none⟩ = some (int i64 n27)) ∧
 ∃ n28 : Int,
 (w21.cell? ⟨b15, 7, none⟩ = some (int i64 n28)) ∧
 ∃ n29 : Int,
 (w21.cell? ⟨b15, 8, none⟩ = some (int i64 n29)) ∧
 ∃ n30 : Int,
 (w21.cell? ⟨b15, 9, none⟩ = some (int i64 n30)) ∧
 ∃ n31 : Int,
 (w21.cell? ⟨b15, 10, none⟩ = some (int i64 n31)) ∧
 ∃ n32 : Int,
 (w21.cell? ⟨b15, 11, none⟩ = some (int i64 n32)) ∧
 (Ca Try.prog (50 : Nat) #[int i64 n23, int i64 (1), int i64 n22] w21 fun e33 w34 =>
 ∃ n35 : Int,
 (e33 = returned (int i64 n35)) ∧
 (w34.cell? ⟨b15, 11, none⟩ = some (int i64 n32)) ∧
 (w34.cell? ⟨b15, 10, none⟩ = some (int i64 n31)) ∧
 (w34.cell? ⟨b15, 9, none⟩ = some (int i64 n30)) ∧
 (w34.cell? ⟨b15, 8, none⟩ = some (int i64 n29)) ∧
 (w34.cell? ⟨b15, 7, none⟩ = some (int i64 n28)) ∧
 (w34.cell? ⟨b15, 6, none⟩ = some (int i64 n27)) ∧
 (w34.cell? ⟨b15, 5, none⟩ = some (int i64 n26)) ∧
 (w34.cell? ⟨b15, 4, none⟩ = some (int i64 n25)) ∧
 (w34.cell? ⟨b15, 2, none⟩ = some (int i64 n24)) ∧
 (Ca Try.prog (50 : Nat) #[int i64 n24, int i64 (1), int i64 (6)] w34 fun e36 w37 =>
 ∃ n38 : Int,
 (e36 = returned (int i64 n38)) ∧
 (w37.cell? ⟨b15, 11, none⟩ = some (int i64 n32)) ∧
 (w37.cell? ⟨b15, 10, none⟩ = some (int i64 n31)) ∧
 (w37.cell? ⟨b15, 9, none⟩ = some (int i64 n30)) ∧
 (w37.cell? ⟨b15, 8, none⟩ = some (int i64 n29)) ∧
 (w37.cell? ⟨b15, 7, none⟩ = some (int i64 n28)) ∧
 (w37.cell? ⟨b15, 6, none⟩ = some (int i64 n27)) ∧
 (w37.cell? ⟨b15, 5, none⟩ = some (int i64 n26)) ∧
 (w37.cell? ⟨b15, 4, none⟩ = some (int i64 n25)) ∧
 (Ca Try.prog (50 : Nat) #[int i64 n25, int i64 (1), int i64 (16)] w37 fun e39 w40 =>
 ∃ n41 : Int,
 (e39 = returned (int i64 n41)) ∧
 (w40.cell? ⟨b15, 11, none⟩ = some (int i64 n32)) ∧
 (w40.cell? ⟨b15, 10, none⟩ = some (int i64 n31)) ∧
 (w40.cell? ⟨b15, 9, none⟩ = some (int i64 n30)) ∧
 (w40.cell? ⟨b15, 8, none⟩ = some (int i64 n29)) ∧
 (w40.cell? ⟨b15, 7, none⟩ = some (int i64 n28)) ∧
 (w40.cell? ⟨b15, 6, none⟩ = some (int i64 n27)) ∧
 (w40.cell? ⟨b15, 5, none⟩ = some (int i64 n26)) ∧
 (Ca Try.prog (50 : Nat) #[int i64 n26, int i64 (1), int i64 (16)] w40 fun e42 w43 =>
 ∃ n44 : Int,
 (e42 = returned (int i64 n44)) ∧
 (w43.cell? ⟨b15, 11, none⟩ = some (int i64 n32)) ∧
 (w43.cell? ⟨b15, 10, none⟩ = some (int i64 n31)) ∧
 (w43.cell? ⟨b15, 9, none⟩ = some (int i64 n30)) ∧
 (w43.cell? ⟨b15, 8, none⟩ = some (int i64 n29)) ∧
 (w43.cell? ⟨b15, 7, none⟩ = some (int i64 n28)) ∧
 (w43.cell? ⟨b15, 6, none⟩ = some (int i64 n27)) ∧
 (Ca Try.prog (50 : Nat) #[int i64 n27, int i64 (1), int i64 (16)] w43 fun e45 w46 =>
 ∃ n47 : Int,
 (e45 = returned (int i64 n47)) ∧
 (w46.cell? ⟨b15, 11, none⟩ = some (int i64 n32)) ∧
 (w46.cell? ⟨b15, 10, none⟩ = some (int i64 n31)) ∧
 (w46.cell? ⟨b15, 9, none⟩ = some (int i64 n30)) ∧
 (w46.cell? ⟨b15, 8, none⟩ = some (int i64 n29)) ∧
 (w46.cell? ⟨b15, 7, none⟩ = some (int i64 n28)) ∧
 (Ca Try.prog (50 : Nat) #[int i64 n28, int i64 (4), int i64 (64)] w46 fun e48 w49 =>
 ∃ n50 : Int,
 (e48 = returned (int i64 n50)) ∧
 (w49.cell? ⟨b15, 11, none⟩ = some (int i64 n32)) ∧
 (w49.cell? ⟨b15, 10, none⟩ = some (int i64 n31)) ∧
 (w49.cell? ⟨b15, 9, none⟩ = some (int i64 n30)) ∧
 (w49.cell? ⟨b15, 8, none⟩ = some (int i64 n29)) ∧
 (Ca Try.prog (50 : Nat) #[int i64 n29, int i64 (4), int i64 (64)] w49 fun e51 w52 =>
 ∃ n53 : Int,
 (e51 = returned (int i64 n53)) ∧
 (w52.cell? ⟨b15, 11, none⟩ = some (int i64 n32)) ∧
 (w52.cell? ⟨b15, 10, none⟩ = some (int i64 n31)) ∧
 (w52.cell? ⟨b15, 9, none⟩ = some (int i64 n30)) ∧
 (Ca Try.prog (50 : Nat) #[int i64 n30, int i64 (4), int i64 (64)] w52 fun e54 w55 =>
 ∃ n56 : Int,
 (e54 = returned (int i64 n56)) ∧
 (w55.cell? ⟨b15, 11, none⟩ = some (int i64 n32)) ∧
 (w55.cell? ⟨b15, 10, none⟩ = some (int i64 n31)) ∧
 (Ca Try.prog (50 : Nat) #[int i64 n31, int i64 (0), int i64 (16)] w55 fun e57 w58 =>
 ∃ n59 : Int,
 (e57 = returned (int i64 n59)) ∧
 (w58.cell? ⟨b15, 11, none⟩ = some (int i64 n32)) ∧
 (Ca Try.prog (50 : Nat) #[int i64 n32, int i64 (1), int i64 (1099511627776)] w58 fun e60 w61 =>
 ∃ n62 : Int,
 (e60 = returned (int i64 n62)) ∧
 LetA (Obj.cells #[int i64 (0), int i64 (0), int i64 (0), slice none (0 : Nat) (0 : Nat), int i64 (0), int i64 (0), int i64 (0), int i64 (0), int i64 (0), int i64 (0), int i64 (0), int i64 (0)] (24 : Nat)) w61 fun b63 w64 =>
 (WrRow w64 ⟨b63, 0, none⟩ (0 : Nat) [int i64 n22, int i64 n35, int i64 n38, slice none (0 : Nat) (0 : Nat), int i64 n41, int i64 n44, int i64 n47, int i64 n50, int i64 n53, int i64 n56, int i64 n59, int i64 n62]) ∧
 LetW (setRow w64 ⟨b63, 0, none⟩ (0 : Nat) [int i64 n22, int i64 n35, int i64 n38, slice none (0 : Nat) (0 : Nat), int i64 n41, int i64 n44, int i64 n47, int i64 n50, int i64 n53, int i64 n56, int i64 n59, int i64 n62]) fun w65 =>
 ∃ I66 : Nat → List Value → World → Prop,
 (∃ k67 : Nat,
 I66 k67 [int i64 (0)] w65) ∧
 ∀ n68 : Int,
 ∀ k69 : Nat,
 ∀ w70 : World,
 (I66 k69 [int i64 n68] w70) →
 ∃ p71 : Option Addr,
 ∃ k72 : Nat,
 ∃ k73 : Nat,
 (w70.cell? ⟨b15, 3, none⟩ = some (slice p71 k72 k73)) ∧
 Br (decide (n68 < (↑k72 : Int)))
 (Br (decide (n68 < (4 : Int)))
 (∃ p74 : Option Addr,
 ∃ k75 : Nat,
 ∃ k76 : Nat,
 (w70.cell? ⟨b63, 3, none⟩ = some (slice p74 k75 k76)) ∧
 ∃ p77 : Option Addr,
 ∃ k78 : Nat,
 ∃ k79 : Nat,
 (w70.cell? ⟨b15, 3, none⟩ = some (slice p77 k78 k79)) ∧
 NilOk p77 fun a80 =>
 ((
 (0 : Int) ≤ n68) ∧
 n68 < (↑k78 : Int)) ∧
 ∃ n81 : Int,
 (w70.cell? (a80.add (n68.toNat * (1 : Nat))) = some (int i64 n81)) ∧
 Ca Try.prog (50 : Nat) #[int i64 n81, int i64 (96), int i64 (65536)] w70 fun e82 w83 =>
 ∃ n84 : Int,
 (e82 = returned (int i64 n84)) ∧
 (w83.cell? ⟨b63, 3, none⟩ = some (slice p74 k75 k76)) ∧
 LetA (Obj.cells #[int i64 n84] (3 : Nat)) w83 fun b85 w86 =>
 (w86.cell? ⟨b63, 3, none⟩ = some (slice p74 k75 k76)) ∧
 RunsV Try.prog (Builtin.append_ #[(22 : Nat), (22 : Nat)] (22 : Nat) #[slice p74 k75 k76, slice (some ⟨b85, 0, none⟩) (1 : Nat) (1 : Nat)]) w86 fun v87 w88 =>
 ∃ p89 : Option Addr,
 ∃ k90 : Nat,
 ∃ k91 : Nat,
 (v87 = slice p89 k90 k91) ∧
 (Wr w88 ⟨b63, 3, none⟩) ∧
 LetW (w88.setCell ⟨b63, 3, none⟩ (slice p89 k90 k91)) fun w92 =>
 LetI (i64.wrap (n68 + (1 : Int))) fun n93 =>
 ∃ k94 : Nat,
 (k94 < k69) ∧
 I66 k94 [int i64 n93] w92)
 (∃ p95 : Option Addr,
 ∃ k96 : Nat,
 ∃ k97 : Nat,
 (w70.cell? ⟨b63, 3, none⟩ = some (slice p95 k96 k97)) ∧
 Br ((↑k96 : Int) == (0 : Int))
 (∃ p98 : Option Addr,
 ∃ k99 : Nat,
 ∃ k100 : Nat,
 (w70.cell? ⟨b63, 3, none⟩ = some (slice p98 k99 k100)) ∧
 LetA (Obj.cells #[int i64 (96)] (3 : Nat)) w70 fun b101 w102 =>
 RunsV Try.prog (Builtin.append_ #[(22 : Nat), (22 : Nat)] (22 : Nat) #[slice p98 k99 k100, slice (some ⟨b101, 0, none⟩) (1 : Nat) (1 : Nat)]) w102 fun v103 w104 =>
 ∃ p105 : Option Addr,
 ∃ k106 : Nat,
 ∃ k107 : Nat,
 (v103 = slice p105 k106 k107) ∧
 (Wr w104 ⟨b63, 3, none⟩) ∧
 LetW (w104.setCell ⟨b63, 3, none⟩ (slice p105 k106 k107)) fun w108 =>
 ∃ n109 : Int,
 ∃ n110 : Int,
 ∃ n111 : Int,
 ∃ p112 : Option Addr,
 ∃ k113 : Nat,
 ∃ k114 : Nat,
 ∃ n115 : Int,
 ∃ n116 : Int,
 ∃ n117 : Int,
 ∃ n118 : Int,
 ∃ n119 : Int,
 ∃ n120 : Int,
 ∃ n121 : Int,
 ∃ n122 : Int,
 (Row w108 ⟨b63, 0, none⟩ (0 : Nat) [int i64 n109, int i64 n110, int i64 n111, slice p112 k113 k114, int i64 n115, int i64 n116, int i64 n117, int i64 n118, int i64 n119, int i64 n120, int i64 n121, int i64 n122]) ∧
 (WrRow w108 ⟨b17, 0, none⟩ (0 : Nat) [int i64 n109, int i64 n110, int i64 n111, slice p112 k113 k114, int i64 n115, int i64 n116, int i64 n117, int i64 n118, int i64 n119, int i64 n120, int i64 n121, int i64 n122]) ∧
 LetW (setRow w108 ⟨b17, 0, none⟩ (0 : Nat) [int i64 n109, int i64 n110, int i64 n111, slice p112 k113 k114, int i64 n115, int i64 n116, int i64 n117, int i64 n118, int i64 n119, int i64 n120, int i64 n121, int i64 n122]) fun w123 =>
 ∃ n124 : Int,
 ∃ n125 : Int,
 ∃ n126 : Int,
 ∃ p127 : Option Addr,
 ∃ k128 : Nat,
 ∃ k129 : Nat,
 ∃ n130 : Int,
 ∃ n131 : Int,
 ∃ n132 : Int,
 ∃ n133 : Int,
 ∃ n134 : Int,
 ∃ n135 : Int,
 ∃ n136 : Int,
 ∃ n137 : Int,
 (Row w123 ⟨b17, 0, none⟩ (0 : Nat) [int i64 n124, int i64 n125, int i64 n126, slice p127 k128 k129, int i64 n130, int i64 n131, int i64 n132, int i64 n133, int i64 n134, int i64 n135, int i64 n136, int i64 n137]) ∧
 R (returned (agg #[int i64 n124, int i64 n125, int i64 n126, slice p127 k128 k129, int i64 n130, int i64 n131, int i64 n132, int i64 n133, int i64 n134, int i64 n135, int i64 n136, int i64 n137])) w123)
 (∃ n138 : Int,
 ∃ n139 : Int,
 ∃ n140 : Int,
 ∃ p141 : Option Addr,
 ∃ k142 : Nat,
 ∃ k143 : Nat,
 ∃ n144 : Int,
 ∃ n145 : Int,
 ∃ n146 : Int,
 ∃ n147 : Int,
 ∃ n148 : Int,
 ∃ n149 : Int,
 ∃ n150 : Int,
 ∃ n151 : Int,
 (Row w70 ⟨b63, 0, none⟩ (0 : Nat) [int i64 n138, int i64 n139, int i64 n140, slice p141 k142 k143, int i64 n144, int i64 n145, int i64 n146, int i64 n147, int i64 n148, int i64 n149, int i64 n150, int i64 n151]) ∧
 (WrRow w70 ⟨b17, 0, none⟩ (0 : Nat) [int i64 n138, int i64 n139, int i64 n140, slice p141 k142 k143, int i64 n144, int i64 n145, int i64 n146, int i64 n147, int i64 n148, int i64 n149, int i64 n150, int i64 n151]) ∧
 LetW (setRow w70 ⟨b17, 0, none⟩ (0 : Nat) [int i64 n138, int i64 n139, int i64 n140, slice p141 k142 k143, int i64 n144, int i64 n145, int i64 n146, int i64 n147, int i64 n148, int i64 n149, int i64 n150, int i64 n151]) fun w152 =>
 ∃ n153 : Int,
 ∃ n154 : Int,
 ∃ n155 : Int,
 ∃ p156 : Option Addr,
 ∃ k157 : Nat,
 ∃ k158 : Nat,
 ∃ n159 : Int,
 ∃ n160 : Int,
 ∃ n161 : Int,
 ∃ n162 : Int,
 ∃ n163 : Int,
 ∃ n164 : Int,
 ∃ n165 : Int,
 ∃ n166 : Int,
 (Row w152 ⟨b17, 0, none⟩ (0 : Nat) [int i64 n153, int i64 n154, int i64 n155, slice p156 k157 k158, int i64 n159, int i64 n160, int i64 n161, int i64 n162, int i64 n163, int i64 n164, int i64 n165, int i64 n166]) ∧
 R (returned (agg #[int i64 n153, int i64 n154, int i64 n155, slice p156 k157 k158, int i64 n159, int i64 n160, int i64 n161, int i64 n162, int i64 n163, int i64 n164, int i64 n165, int i64 n166])) w152)))
 (∃ p167 : Option Addr,
 ∃ k168 : Nat,
 ∃ k169 : Nat,
 (w70.cell? ⟨b63, 3, none⟩ = some (slice p167 k168 k169)) ∧
 Br ((↑k168 : Int) == (0 : Int))
 (∃ p170 : Option Addr,
 ∃ k171 : Nat,
 ∃ k172 : Nat,
 (w70.cell? ⟨b63, 3, none⟩ = some (slice p170 k171 k172)) ∧
 LetA (Obj.cells #[int i64 (96)] (3 : Nat)) w70 fun b173 w174 =>
 RunsV Try.prog (Builtin.append_ #[(22 : Nat), (22 : Nat)] (22 : Nat) #[slice p170 k171 k172, slice (some ⟨b173, 0, none⟩) (1 : Nat) (1 : Nat)]) w174 fun v175 w176 =>
 ∃ p177 : Option Addr,
 ∃ k178 : Nat,
 ∃ k179 : Nat,
 (v175 = slice p177 k178 k179) ∧
 (Wr w176 ⟨b63, 3, none⟩) ∧
 LetW (w176.setCell ⟨b63, 3, none⟩ (slice p177 k178 k179)) fun w180 =>
 ∃ n181 : Int,
 ∃ n182 : Int,
 ∃ n183 : Int,
 ∃ p184 : Option Addr,
 ∃ k185 : Nat,
 ∃ k186 : Nat,
 ∃ n187 : Int,
 ∃ n188 : Int,
 ∃ n189 : Int,
 ∃ n190 : Int,
 ∃ n191 : Int,
 ∃ n192 : Int,
 ∃ n193 : Int,
 ∃ n194 : Int,
 (Row w180 ⟨b63, 0, none⟩ (0 : Nat) [int i64 n181, int i64 n182, int i64 n183, slice p184 k185 k186, int i64 n187, int i64 n188, int i64 n189, int i64 n190, int i64 n191, int i64 n192, int i64 n193, int i64 n194]) ∧
 (WrRow w180 ⟨b17, 0, none⟩ (0 : Nat) [int i64 n181, int i64 n182, int i64 n183, slice p184 k185 k186, int i64 n187, int i64 n188, int i64 n189, int i64 n190, int i64 n191, int i64 n192, int i64 n193, int i64 n194]) ∧
 LetW (setRow w180 ⟨b17, 0, none⟩ (0 : Nat) [int i64 n181, int i64 n182, int i64 n183, slice p184 k185 k186, int i64 n187, int i64 n188, int i64 n189, int i64 n190, int i64 n191, int i64 n192, int i64 n193, int i64 n194]) fun w195 =>
 ∃ n196 : Int,
 ∃ n197 : Int,
 ∃ n198 : Int,
 ∃ p199 : Option Addr,
 ∃ k200 : Nat,
 ∃ k201 : Nat,
 ∃ n202 : Int,
 ∃ n203 : Int,
 ∃ n204 : Int,
 ∃ n205 : Int,
 ∃ n206 : Int,
 ∃ n207 : Int,
 ∃ n208 : Int,
 ∃ n209 : Int,
 (Row w195 ⟨b17, 0, none⟩ (0 : Nat) [int i64 n196, int i64 n197, int i64 n198, slice p199 k200 k201, int i64 n202, int i64 n203, int i64 n204, int i64 n205, int i64 n206, int i64 n207, int i64 n208, int i64 n209]) ∧
 R (returned (agg #[int i64 n196, int i64 n197, int i64 n198, slice p199 k200 k201, int i64 n202, int i64 n203, int i64 n204, int i64 n205, int i64 n206, int i64 n207, int i64 n208, int i64 n209])) w195)
 (∃ n210 : Int,
 ∃ n211 : Int,
 ∃ n212 : Int,
 ∃ p213 : Option Addr,
 ∃ k214 : Nat,
 ∃ k215 : Nat,
 ∃ n216 : Int,
 ∃ n217 : Int,
 ∃ n218 : Int,
 ∃ n219 : Int,
 ∃ n220 : Int,
 ∃ n221 : Int,
 ∃ n222 : Int,
 ∃ n223 : Int,
 (Row w70 ⟨b63, 0, none⟩ (0 : Nat) [int i64 n210, int i64 n211, int i64 n212, slice p213 k214 k215, int i64 n216, int i64 n217, int i64 n218, int i64 n219, int i64 n220, int i64 n221, int i64 n222, int i64 n223]) ∧
 (WrRow w70 ⟨b17, 0, none⟩ (0 : Nat) [int i64 n210, int i64 n211, int i64 n212, slice p213 k214 k215, int i64 n216, int i64 n217, int i64 n218, int i64 n219, int i64 n220, int i64 n221, int i64 n222, int i64 n223]) ∧
 LetW (setRow w70 ⟨b17, 0, none⟩ (0 : Nat) [int i64 n210, int i64 n211, int i64 n212, slice p213 k214 k215, int i64 n216, int i64 n217, int i64 n218, int i64 n219, int i64 n220, int i64 n221, int i64 n222, int i64 n223]) fun w224 =>
 ∃ n225 : Int,
 ∃ n226 : Int,
 ∃ n227 : Int,
 ∃ p228 : Option Addr,
 ∃ k229 : Nat,
 ∃ k230 : Nat,
 ∃ n231 : Int,
 ∃ n232 : Int,
 ∃ n233 : Int,
 ∃ n234 : Int,
 ∃ n235 : Int,
 ∃ n236 : Int,
 ∃ n237 : Int,
 ∃ n238 : Int,
 (Row w224 ⟨b17, 0, none⟩ (0 : Nat) [int i64 n225, int i64 n226, int i64 n227, slice p228 k229 k230, int i64 n231, int i64 n232, int i64 n233, int i64 n234, int i64 n235, int i64 n236, int i64 n237, int i64 n238]) ∧
 R (returned (agg #[int i64 n225, int i64 n226, int i64 n227, slice p228 k229 k230, int i64 n231, int i64 n232, int i64 n233, int i64 n234, int i64 n235, int i64 n236, int i64 n237, int i64 n238])) w224))) ∧
 LetA (Obj.cells #[int i64 (0), int i64 (0), int i64 (0), slice none (0 : Nat) (0 : Nat), int i64 (0), int i64 (0), int i64 (0), int i64 (0), int i64 (0), int i64 (0), int i64 (0), int i64 (0)] (24 : Nat)) w58 fun b239 w240 =>
 (w240.cell? ⟨b15, 11, none⟩ = some (int i64 n32)) ∧
 Ca Try.prog (50 : Nat) #[int i64 n32, int i64 (1), int i64 (1099511627776)] w240 fun e241 w242 =>
 ∃ n243 : Int,
 (e241 = returned (int i64 n243)) ∧
 (WrRow w242 ⟨b239, 0, none⟩ (0 : Nat) [int i64 n22, int i64 n35, int i64 n38, slice none (0 : Nat) (0 : Nat), int i64 n41, int i64 n44, int i64 n47, int i64 n50, int i64 n53, int i64 n56, int i64 n59, int i64 n243]) ∧
 LetW (setRow w242 ⟨b239, 0, none⟩ (0 : Nat) [int i64 n22, int i64 n35, int i64 n38, slice none (0 : Nat) (0 : Nat), int i64 n41, int i64 n44, int i64 n47, int i64 n50, int i64 n53, int i64 n56, int i64 n59, int i64 n243]) fun w244 =>
 ∃ I245 : Nat → List Value → World → Prop,
 (∃ k246 : Nat,
 I245 k246 [int i64 (0)] w244) ∧
 ∀ n247 : Int,
 ∀ k248 : Nat,
 ∀ w249 : World,
 (I245 k248 [int i64 n247] w249) →
 ∃ p250 : Option Addr,
 ∃ k251 : Nat,
 ∃ k252 : Nat,
 (w249.cell? ⟨b15, 3, none⟩ = some (slice p250 k251 k252)) ∧
 Br (decide (n247 < (↑k251 : Int)))
 (Br (decide (n247 < (4 : Int)))
 (∃ p253 : Option Addr,
 ∃ k254 : Nat,
 ∃ k255 : Nat,
 (w249.cell? ⟨b239, 3, none⟩ = some (slice p253 k254 k255)) ∧
 ∃ p256 : Option Addr,
 ∃ k257 : Nat,
 ∃ k258 : Nat,
 (w249.cell? ⟨b15, 3, none⟩ = some (slice p256 k257 k258)) ∧
 NilOk p256 fun a259 =>
 ((
 (0 : Int) ≤ n247) ∧
 n247 < (↑k257 : Int)) ∧
 ∃ n260 : Int,
 (w249.cell? (a259.add (n247.toNat * (1 : Nat))) = some (int i64 n260)) ∧
 Ca Try.prog (50 : Nat) #[int i64 n260, int i64 (96), int i64 (65536)] w249 fun e261 w262 =>
 ∃ n263 : Int,
 (e261 = returned (int i64 n263)) ∧
 (w262.cell? ⟨b239, 3, none⟩ = some (slice p253 k254 k255)) ∧
 LetA (Obj.cells #[int i64 n263] (3 : Nat)) w262 fun b264 w265 =>
 (w265.cell? ⟨b239, 3, none⟩ = some (slice p253 k254 k255)) ∧
 RunsV Try.prog (Builtin.append_ #[(22 : Nat), (22 : Nat)] (22 : Nat) #[slice p253 k254 k255, slice (some ⟨b264, 0, none⟩) (1 : Nat) (1 : Nat)]) w265 fun v266 w267 =>
 ∃ p268 : Option Addr,
 ∃ k269 : Nat,
 ∃ k270 : Nat,
 (v266 = slice p268 k269 k270) ∧
 (Wr w267 ⟨b239, 3, none⟩) ∧
 LetW (w267.setCell ⟨b239, 3, none⟩ (slice p268 k269 k270)) fun w271 =>
 LetI (i64.wrap (n247 + (1 : Int))) fun n272 =>
 ∃ k273 : Nat,
 (k273 < k248) ∧
 I245 k273 [int i64 n272] w271)
 (∃ p274 : Option Addr,
 ∃ k275 : Nat,
 ∃ k276 : Nat,
 (w249.cell? ⟨b239, 3, none⟩ = some (slice p274 k275 k276)) ∧
 Br ((↑k275 : Int) == (0 : Int))
 (∃ p277 : Option Addr,
 ∃ k278 : Nat,
 ∃ k279 : Nat,
 (w249.cell? ⟨b239, 3, none⟩ = some (slice p277 k278 k279)) ∧
 LetA (Obj.cells #[int i64 (96)] (3 : Nat)) w249 fun b280 w281 =>
 RunsV Try.prog (Builtin.append_ #[(22 : Nat), (22 : Nat)] (22 : Nat) #[slice p277 k278 k279, slice (some ⟨b280, 0, none⟩) (1 : Nat) (1 : Nat)]) w281 fun v282 w283 =>
 ∃ p284 : Option Addr,
 ∃ k285 : Nat,
 ∃ k286 : Nat,
 (v282 = slice p284 k285 k286) ∧
 (Wr w283 ⟨b239, 3, none⟩) ∧
 LetW (w283.setCell ⟨b239, 3, none⟩ (slice p284 k285 k286)) fun w287 =>
 ∃ n288 : Int,
 ∃ n289 : Int,
 ∃ n290 : Int,
 ∃ p291 : Option Addr,
 ∃ k292 : Nat,
 ∃ k293 : Nat,
 ∃ n294 : Int,
 ∃ n295 : Int,
 ∃ n296 : Int,
 ∃ n297 : Int,
 ∃ n298 : Int,
 ∃ n299 : Int,
 ∃ n300 : Int,
 ∃ n301 : Int,
 (Row w287 ⟨b239, 0, none⟩ (0 : Nat) [int i64 n288, int i64 n289, int i64 n290, slice p291 k292 k293, int i64 n294, int i64 n295, int i64 n296, int i64 n297, int i64 n298, int i64 n299, int i64 n300, int i64 n301]) ∧
 (WrRow w287 ⟨b17, 0, none⟩ (0 : Nat) [int i64 n288, int i64 n289, int i64 n290, slice p291 k292 k293, int i64 n294, int i64 n295, int i64 n296, int i64 n297, int i64 n298, int i64 n299, int i64 n300, int i64 n301]) ∧
 LetW (setRow w287 ⟨b17, 0, none⟩ (0 : Nat) [int i64 n288, int i64 n289, int i64 n290, slice p291 k292 k293, int i64 n294, int i64 n295, int i64 n296, int i64 n297, int i64 n298, int i64 n299, int i64 n300, int i64 n301]) fun w302 =>
 ∃ n303 : Int,
 ∃ n304 : Int,
 ∃ n305 : Int,
 ∃ p306 : Option Addr,
 ∃ k307 : Nat,
 ∃ k308 : Nat,
 ∃ n309 : Int,
 ∃ n310 : Int,
 ∃ n311 : Int,
 ∃ n312 : Int,
 ∃ n313 : Int,
 ∃ n314 : Int,
 ∃ n315 : Int,
 ∃ n316 : Int,
 (Row w302 ⟨b17, 0, none⟩ (0 : Nat) [int i64 n303, int i64 n304, int i64 n305, slice p306 k307 k308, int i64 n309, int i64 n310, int i64 n311, int i64 n312, int i64 n313, int i64 n314, int i64 n315, int i64 n316]) ∧
 R (returned (agg #[int i64 n303, int i64 n304, int i64 n305, slice p306 k307 k308, int i64 n309, int i64 n310, int i64 n311, int i64 n312, int i64 n313, int i64 n314, int i64 n315, int i64 n316])) w302)
 (∃ n317 : Int,
 ∃ n318 : Int,
 ∃ n319 : Int,
 ∃ p320 : Option Addr,
 ∃ k321 : Nat,
 ∃ k322 : Nat,
 ∃ n323 : Int,
 ∃ n324 : Int,
 ∃ n325 : Int,
 ∃ n326 : Int,
 ∃ n327 : Int,
 ∃ n328 : Int,
 ∃ n329 : Int,
 ∃ n330 : Int,
 (Row w249 ⟨b239, 0, none⟩ (0 : Nat) [int i64 n317, int i64 n318, int i64 n319, slice p320 k321 k322, int i64 n323, int i64 n324, int i64 n325, int i64 n326, int i64 n327, int i64 n328, int i64 n329, int i64 n330]) ∧
 (WrRow w249 ⟨b17, 0, none⟩ (0 : Nat) [int i64 n317, int i64 n318, int i64 n319, slice p320 k321 k322, int i64 n323, int i64 n324, int i64 n325, int i64 n326, int i64 n327, int i64 n328, int i64 n329, int i64 n330]) ∧
 LetW (setRow w249 ⟨b17, 0, none⟩ (0 : Nat) [int i64 n317, int i64 n318, int i64 n319, slice p320 k321 k322, int i64 n323, int i64 n324, int i64 n325, int i64 n326, int i64 n327, int i64 n328, int i64 n329, int i64 n330]) fun w331 =>
 ∃ n332 : Int,
 ∃ n333 : Int,
 ∃ n334 : Int,
 ∃ p335 : Option Addr,
 ∃ k336 : Nat,
 ∃ k337 : Nat,
 ∃ n338 : Int,
 ∃ n339 : Int,
 ∃ n340 : Int,
 ∃ n341 : Int,
 ∃ n342 : Int,
 ∃ n343 : Int,
 ∃ n344 : Int,
 ∃ n345 : Int,
 (Row w331 ⟨b17, 0, none⟩ (0 : Nat) [int i64 n332, int i64 n333, int i64 n334, slice p335 k336 k337, int i64 n338, int i64 n339, int i64 n340, int i64 n341, int i64 n342, int i64 n343, int i64 n344, int i64 n345]) ∧
 R (returned (agg #[int i64 n332, int i64 n333, int i64 n334, slice p335 k336 k337, int i64 n338, int i64 n339, int i64 n340, int i64 n341, int i64 n342, int i64 n343, int i64 n344, int i64 n345])) w331)))
 (∃ p346 : Option Addr,
 ∃ k347 : Nat,
 ∃ k348 : Nat,
 (w249.cell? ⟨b239, 3, none⟩ = some (slice p346 k347 k348)) ∧
 Br ((↑k347 : Int) == (0 : Int))
 (∃ p349 : Option Addr,
 ∃ k350 : Nat,
 ∃ k351 : Nat,
 (w249.cell? ⟨b239, 3, none⟩ = some (slice p349 k350 k351)) ∧
 LetA (Obj.cells #[int i64 (96)] (3 : Nat)) w249 fun b352 w353 =>
 RunsV Try.prog (Builtin.append_ #[(22 : Nat), (22 : Nat)] (22 : Nat) #[slice p349 k350 k351, slice (some ⟨b352, 0, none⟩) (1 : Nat) (1 : Nat)]) w353 fun v354 w355 =>
 ∃ p356 : Option Addr,
 ∃ k357 : Nat,
 ∃ k358 : Nat,
 (v354 = slice p356 k357 k358) ∧
 (Wr w355 ⟨b239, 3, none⟩) ∧
 LetW (w355.setCell ⟨b239, 3, none⟩ (slice p356 k357 k358)) fun w359 =>
 ∃ n360 : Int,
 ∃ n361 : Int,
 ∃ n362 : Int,
 ∃ p363 : Option Addr,
 ∃ k364 : Nat,
 ∃ k365 : Nat,
 ∃ n366 : Int,
 ∃ n367 : Int,
 ∃ n368 : Int,
 ∃ n369 : Int,
 ∃ n370 : Int,
 ∃ n371 : Int,
 ∃ n372 : Int,
 ∃ n373 : Int,
 (Row w359 ⟨b239, 0, none⟩ (0 : Nat) [int i64 n360, int i64 n361, int i64 n362, slice p363 k364 k365, int i64 n366, int i64 n367, int i64 n368, int i64 n369, int i64 n370, int i64 n371, int i64 n372, int i64 n373]) ∧
 (WrRow w359 ⟨b17, 0, none⟩ (0 : Nat) [int i64 n360, int i64 n361, int i64 n362, slice p363 k364 k365, int i64 n366, int i64 n367, int i64 n368, int i64 n369, int i64 n370, int i64 n371, int i64 n372, int i64 n373]) ∧
 LetW (setRow w359 ⟨b17, 0, none⟩ (0 : Nat) [int i64 n360, int i64 n361, int i64 n362, slice p363 k364 k365, int i64 n366, int i64 n367, int i64 n368, int i64 n369, int i64 n370, int i64 n371, int i64 n372, int i64 n373]) fun w374 =>
 ∃ n375 : Int,
 ∃ n376 : Int,
 ∃ n377 : Int,
 ∃ p378 : Option Addr,
 ∃ k379 : Nat,
 ∃ k380 : Nat,
 ∃ n381 : Int,
 ∃ n382 : Int,
 ∃ n383 : Int,
 ∃ n384 : Int,
 ∃ n385 : Int,
 ∃ n386 : Int,
 ∃ n387 : Int,
 ∃ n388 : Int,
 (Row w374 ⟨b17, 0, none⟩ (0 : Nat) [int i64 n375, int i64 n376, int i64 n377, slice p378 k379 k380, int i64 n381, int i64 n382, int i64 n383, int i64 n384, int i64 n385, int i64 n386, int i64 n387, int i64 n388]) ∧
 R (returned (agg #[int i64 n375, int i64 n376, int i64 n377, slice p378 k379 k380, int i64 n381, int i64 n382, int i64 n383, int i64 n384, int i64 n385, int i64 n386, int i64 n387, int i64 n388])) w374)
 (∃ n389 : Int,
 ∃ n390 : Int,
 ∃ n391 : Int,
 ∃ p392 : Option Addr,
 ∃ k393 : Nat,
 ∃ k394 : Nat,
 ∃ n395 : Int,
 ∃ n396 : Int,
 ∃ n397 : Int,
 ∃ n398 : Int,
 ∃ n399 : Int,
 ∃ n400 : Int,
 ∃ n401 : Int,
 ∃ n402 : Int,
 (Row w249 ⟨b239, 0, none⟩ (0 : Nat) [int i64 n389, int i64 n390, int i64 n391, slice p392 k393 k394, int i64 n395, int i64 n396, int i64 n397, int i64 n398, int i64 n399, int i64 n400, int i64 n401, int i64 n402]) ∧
 (WrRow w249 ⟨b17, 0, none⟩ (0 : Nat) [int i64 n389, int i64 n390, int i64 n391, slice p392 k393 k394, int i64 n395, int i64 n396, int i64 n397, int i64 n398, int i64 n399, int i64 n400, int i64 n401, int i64 n402]) ∧
 LetW (setRow w249 ⟨b17, 0, none⟩ (0 : Nat) [int i64 n389, int i64 n390, int i64 n391, slice p392 k393 k394, int i64 n395, int i64 n396, int i64 n397, int i64 n398, int i64 n399, int i64 n400, int i64 n401, int i64 n402]) fun w403 =>
 ∃ n404 : Int,
 ∃ n405 : Int,
 ∃ n406 : Int,
 ∃ p407 : Option Addr,
 ∃ k408 : Nat,
 ∃ k409 : Nat,
 ∃ n410 : Int,
 ∃ n411 : Int,
 ∃ n412 : Int,
 ∃ n413 : Int,
 ∃ n414 : Int,
 ∃ n415 : Int,
 ∃ n416 : Int,
 ∃ n417 : Int,
 (Row w403 ⟨b17, 0, none⟩ (0 : Nat) [int i64 n404, int i64 n405, int i64 n406, slice p407 k408 k409, int i64 n410, int i64 n411, int i64 n412, int i64 n413, int i64 n414, int i64 n415, int i64 n416, int i64 n417]) ∧
 R (returned (agg #[int i64 n404, int i64 n405, int i64 n406, slice p407 k408 k409, int i64 n410, int i64 n411, int i64 n412, int i64 n413, int i64 n414, int i64 n415, int i64 n416, int i64 n417])) w403))) ∧
 LetA (Obj.cells #[int i64 (0), int i64 (0), int i64 (0), slice none (0 : Nat) (0 : Nat), int i64 (0), int i64 (0), int i64 (0), int i64 (0), int i64 (0), int i64 (0), int i64 (0), int i64 (0)] (24 : Nat)) w55 fun b418 w419 =>
 (w419.cell? ⟨b15, 11, none⟩ = some (int i64 n32)) ∧
 (w419.cell? ⟨b15, 10, none⟩ = some (int i64 n31)) ∧
 Ca Try.prog (50 : Nat) #[int i64 n31, int i64 (0), int i64 (16)] w419 fun e420 w421 =>
 ∃ n422 : Int,
 (e420 = returned (int i64 n422)) ∧
 (w421.cell? ⟨b15, 11, none⟩ = some (int i64 n32)) ∧
 Ca Try.prog (50 : Nat) #[int i64 n32, int i64 (1), int i64 (1099511627776)] w421 fun e423 w424 =>
 ∃ n425 : Int,
 (e423 = returned (int i64 n425)) ∧
 (WrRow w424 ⟨b418, 0, none⟩ (0 : Nat) [int i64 n22, int i64 n35, int i64 n38, slice none (0 : Nat) (0 : Nat), int i64 n41, int i64 n44, int i64 n47, int i64 n50, int i64 n53, int i64 n56, int i64 n422, int i64 n425]) ∧
 LetW (setRow w424 ⟨b418, 0, none⟩ (0 : Nat) [int i64 n22, int i64 n35, int i64 n38, slice none (0 : Nat) (0 : Nat), int i64 n41, int i64 n44, int i64 n47, int i64 n50, int i64 n53, int i64 n56, int i64 n422, int i64 n425]) fun w426 =>
 ∃ I427 : Nat → List Value → World → Prop,
 (∃ k428 : Nat,
 I427 k428 [int i64 (0)] w426) ∧
 ∀ n429 : Int,
 ∀ k430 : Nat,
 ∀ w431 : World,
 (I427 k430 [int i64 n429] w431) →
 ∃ p432 : Option Addr,
 ∃ k433 : Nat,
 ∃ k434 : Nat,
 (w431.cell? ⟨b15, 3, none⟩ = some (slice p432 k433 k434)) ∧
 Br (decide (n429 < (↑k433 : Int)))
 (Br (decide (n429 < (4 : Int)))
 (∃ p435 : Option Addr,
 ∃ k436 : Nat,
 ∃ k437 : Nat,
 (w431.cell? ⟨b418, 3, none⟩ = some (slice p435 k436 k437)) ∧
 ∃ p438 : Option Addr,
 ∃ k439 : Nat,
 ∃ k440 : Nat,
 (w431.cell? ⟨b15, 3, none⟩ = some (slice p438 k439 k440)) ∧
 NilOk p438 fun a441 =>
 ((
 (0 : Int) ≤ n429) ∧
 n429 < (↑k439 : Int)) ∧
 ∃ n442 : Int,
 (w431.cell? (a441.add (n429.toNat * (1 : Nat))) = some (int i64 n442)) ∧
 Ca Try.prog (50 : Nat) #[int i64 n442, int i64 (96), int i64 (65536)] w431 fun e443 w444 =>
 ∃ n445 : Int,
 (e443 = returned (int i64 n445)) ∧
 (w444.cell? ⟨b418, 3, none⟩ = some (slice p435 k436 k437)) ∧
 LetA (Obj.cells #[int i64 n445] (3 : Nat)) w444 fun b446 w447 =>
 (w447.cell? ⟨b418, 3, none⟩ = some (slice p435 k436 k437)) ∧
 RunsV Try.prog (Builtin.append_ #[(22 : Nat), (22 : Nat)] (22 : Nat) #[slice p435 k436 k437, slice (some ⟨b446, 0, none⟩) (1 : Nat) (1 : Nat)]) w447 fun v448 w449 =>
 ∃ p450 : Option Addr,
 ∃ k451 : Nat,
 ∃ k452 : Nat,
 (v448 = slice p450 k451 k452) ∧
 (Wr w449 ⟨b418, 3, none⟩) ∧
 LetW (w449.setCell ⟨b418, 3, none⟩ (slice p450 k451 k452)) fun w453 =>
 LetI (i64.wrap (n429 + (1 : Int))) fun n454 =>
 ∃ k455 : Nat,
 (k455 < k430) ∧
 I427 k455 [int i64 n454] w453)
 (∃ p456 : Option Addr,
 ∃ k457 : Nat,
 ∃ k458 : Nat,
 (w431.cell? ⟨b418, 3, none⟩ = some (slice p456 k457 k458)) ∧
 Br ((↑k457 : Int) == (0 : Int))
 (∃ p459 : Option Addr,
 ∃ k460 : Nat,
 ∃ k461 : Nat,
 (w431.cell? ⟨b418, 3, none⟩ = some (slice p459 k460 k461)) ∧
 LetA (Obj.cells #[int i64 (96)] (3 : Nat)) w431 fun b462 w463 =>
 RunsV Try.prog (Builtin.append_ #[(22 : Nat), (22 : Nat)] (22 : Nat) #[slice p459 k460 k461, slice (some ⟨b462, 0, none⟩) (1 : Nat) (1 : Nat)]) w463 fun v464 w465 =>
 ∃ p466 : Option Addr,
 ∃ k467 : Nat,
 ∃ k468 : Nat,
 (v464 = slice p466 k467 k468) ∧
 (Wr w465 ⟨b418, 3, none⟩) ∧
 LetW (w465.setCell ⟨b418, 3, none⟩ (slice p466 k467 k468)) fun w469 =>
 ∃ n470 : Int,
 ∃ n471 : Int,
 ∃ n472 : Int,
 ∃ p473 : Option Addr,
 ∃ k474 : Nat,
 ∃ k475 : Nat,
 ∃ n476 : Int,
 ∃ n477 : Int,
 ∃ n478 : Int,
 ∃ n479 : Int,
 ∃ n480 : Int,
 ∃ n481 : Int,
 ∃ n482 : Int,
 ∃ n483 : Int,
 (Row w469 ⟨b418, 0, none⟩ (0 : Nat) [int i64 n470, int i64 n471, int i64 n472, slice p473 k474 k475, int i64 n476, int i64 n477, int i64 n478, int i64 n479, int i64 n480, int i64 n481, int i64 n482, int i64 n483]) ∧
 (WrRow w469 ⟨b17, 0, none⟩ (0 : Nat) [int i64 n470, int i64 n471, int i64 n472, slice p473 k474 k475, int i64 n476, int i64 n477, int i64 n478, int i64 n479, int i64 n480, int i64 n481, int i64 n482, int i64 n483]) ∧
 LetW (setRow w469 ⟨b17, 0, none⟩ (0 : Nat) [int i64 n470, int i64 n471, int i64 n472, slice p473 k474 k475, int i64 n476, int i64 n477, int i64 n478, int i64 n479, int i64 n480, int i64 n481, int i64 n482, int i64 n483]) fun w484 =>
 ∃ n485 : Int,
 ∃ n486 : Int,
 ∃ n487 : Int,
 ∃ p488 : Option Addr,
 ∃ k489 : Nat,
 ∃ k490 : Nat,
 ∃ n491 : Int,
 ∃ n492 : Int,
 ∃ n493 : Int,
 ∃ n494 : Int,
 ∃ n495 : Int,
 ∃ n496 : Int,
 ∃ n497 : Int,
 ∃ n498 : Int,
 (Row w484 ⟨b17, 0, none⟩ (0 : Nat) [int i64 n485, int i64 n486, int i64 n487, slice p488 k489 k490, int i64 n491, int i64 n492, int i64 n493, int i64 n494, int i64 n495, int i64 n496, int i64 n497, int i64 n498]) ∧
 R (returned (agg #[int i64 n485, int i64 n486, int i64 n487, slice p488 k489 k490, int i64 n491, int i64 n492, int i64 n493, int i64 n494, int i64 n495, int i64 n496, int i64 n497, int i64 n498])) w484)
 (∃ n499 : Int,
 ∃ n500 : Int,
 ∃ n501 : Int,
 ∃ p502 : Option Addr,
 ∃ k503 : Nat,
 ∃ k504 : Nat,
 ∃ n505 : Int,
 ∃ n506 : Int,
 ∃ n507 : Int,
 ∃ n508 : Int,
 ∃ n509 : Int,
 ∃ n510 : Int,
 ∃ n511 : Int,
 ∃ n512 : Int,
 (Row w431 ⟨b418, 0, none⟩ (0 : Nat) [int i64 n499, int i64 n500, int i64 n501, slice p502 k503 k504, int i64 n505, int i64 n506, int i64 n507, int i64 n508, int i64 n509, int i64 n510, int i64 n511, int i64 n512]) ∧
 (WrRow w431 ⟨b17, 0, none⟩ (0 : Nat) [int i64 n499, int i64 n500, int i64 n501, slice p502 k503 k504, int i64 n505, int i64 n506, int i64 n507, int i64 n508, int i64 n509, int i64 n510, int i64 n511, int i64 n512]) ∧
 LetW (setRow w431 ⟨b17, 0, none⟩ (0 : Nat) [int i64 n499, int i64 n500, int i64 n501, slice p502 k503 k504, int i64 n505, int i64 n506, int i64 n507, int i64 n508, int i64 n509, int i64 n510, int i64 n511, int i64 n512]) fun w513 =>
 ∃ n514 : Int,
 ∃ n515 : Int,
 ∃ n516 : Int,
 ∃ p517 : Option Addr,
 ∃ k518 : Nat,
 ∃ k519 : Nat,
 ∃ n520 : Int,
 ∃ n521 : Int,
 ∃ n522 : Int,
 ∃ n523 : Int,
 ∃ n524 : Int,
 ∃ n525 : Int,
 ∃ n526 : Int,
 ∃ n527 : Int,
 (Row w513 ⟨b17, 0, none⟩ (0 : Nat) [int i64 n514, int i64 n515, int i64 n516, slice p517 k518 k519, int i64 n520, int i64 n521, int i64 n522, int i64 n523, int i64 n524, int i64 n525, int i64 n526, int i64 n527]) ∧
 R (returned (agg #[int i64 n514, int i64 n515, int i64 n516, slice p517 k518 k519, int i64 n520, int i64 n521, int i64 n522, int i64 n523, int i64 n524, int i64 n525, int i64 n526, int i64 n527])) w513)))
 (∃ p528 : Option Addr,
 ∃ k529 : Nat,
 ∃ k530 : Nat,
 (w431.cell? ⟨b418, 3, none⟩ = some (slice p528 k529 k530)) ∧
 Br ((↑k529 : Int) == (0 : Int))
 (∃ p531 : Option Addr,
 ∃ k532 : Nat,
 ∃ k533 : Nat,
 (w431.cell? ⟨b418, 3, none⟩ = some (slice p531 k532 k533)) ∧
 LetA (Obj.cells #[int i64 (96)] (3 : Nat)) w431 fun b534 w535 =>
 RunsV Try.prog (Builtin.append_ #[(22 : Nat), (22 : Nat)] (22 : Nat) #[slice p531 k532 k533, slice (some ⟨b534, 0, none⟩) (1 : Nat) (1 : Nat)]) w535 fun v536 w537 =>
 ∃ p538 : Option Addr,
 ∃ k539 : Nat,
 ∃ k540 : Nat,
 (v536 = slice p538 k539 k540) ∧
 (Wr w537 ⟨b418, 3, none⟩) ∧
 LetW (w537.setCell ⟨b418, 3, none⟩ (slice p538 k539 k540)) fun w541 =>
 ∃ n542 : Int,
 ∃ n543 : Int,
 ∃ n544 : Int,
 ∃ p545 : Option Addr,
 ∃ k546 : Nat,
 ∃ k547 : Nat,
 ∃ n548 : Int,
 ∃ n549 : Int,
 ∃ n550 : Int,
 ∃ n551 : Int,
 ∃ n552 : Int,
 ∃ n553 : Int,
 ∃ n554 : Int,
 ∃ n555 : Int,
 (Row w541 ⟨b418, 0, none⟩ (0 : Nat) [int i64 n542, int i64 n543, int i64 n544, slice p545 k546 k547, int i64 n548, int i64 n549, int i64 n550, int i64 n551, int i64 n552, int i64 n553, int i64 n554, int i64 n555]) ∧
 (WrRow w541 ⟨b17, 0, none⟩ (0 : Nat) [int i64 n542, int i64 n543, int i64 n544, slice p545 k546 k547, int i64 n548, int i64 n549, int i64 n550, int i64 n551, int i64 n552, int i64 n553, int i64 n554, int i64 n555]) ∧
 LetW (setRow w541 ⟨b17, 0, none⟩ (0 : Nat) [int i64 n542, int i64 n543, int i64 n544, slice p545 k546 k547, int i64 n548, int i64 n549, int i64 n550, int i64 n551, int i64 n552, int i64 n553, int i64 n554, int i64 n555]) fun w556 =>
 ∃ n557 : Int,
 ∃ n558 : Int,
 ∃ n559 : Int,
 ∃ p560 : Option Addr,
 ∃ k561 : Nat,
 ∃ k562 : Nat,
 ∃ n563 : Int,
 ∃ n564 : Int,
 ∃ n565 : Int,
 ∃ n566 : Int,
 ∃ n567 : Int,
 ∃ n568 : Int,
 ∃ n569 : Int,
 ∃ n570 : Int,
 (Row w556 ⟨b17, 0, none⟩ (0 : Nat) [int i64 n557, int i64 n558, int i64 n559, slice p560 k561 k562, int i64 n563, int i64 n564, int i64 n565, int i64 n566, int i64 n567, int i64 n568, int i64 n569, int i64 n570]) ∧
 R (returned (agg #[int i64 n557, int i64 n558, int i64 n559, slice p560 k561 k562, int i64 n563, int i64 n564, int i64 n565, int i64 n566, int i64 n567, int i64 n568, int i64 n569, int i64 n570])) w556)
 (∃ n571 : Int,
 ∃ n572 : Int,
 ∃ n573 : Int,
 ∃ p574 : Option Addr,
 ∃ k575 : Nat,
 ∃ k576 : Nat,
 ∃ n577 : Int,
 ∃ n578 : Int,
 ∃ n579 : Int,
 ∃ n580 : Int,
 ∃ n581 : Int,
 ∃ n582 : Int,
 ∃ n583 : Int,
 ∃ n584 : Int,
 (Row w431 ⟨b418, 0, none⟩ (0 : Nat) [int i64 n571, int i64 n572, int i64 n573, slice p574 k575 k576, int i64 n577, int i64 n578, int i64 n579, int i64 n580, int i64 n581, int i64 n582, int i64 n583, int i64 n584]) ∧
 (WrRow w431 ⟨b17, 0, none⟩ (0 : Nat) [int i64 n571, int i64 n572, int i64 n573, slice p574 k575 k576, int i64 n577, int i64 n578, int i64 n579, int i64 n580, int i64 n581, int i64 n582, int i64 n583, int i64 n584]) ∧
 LetW (setRow w431 ⟨b17, 0, none⟩ (0 : Nat) [int i64 n571, int i64 n572, int i64 n573, slice p574 k575 k576, int i64 n577, int i64 n578, int i64 n579, int i64 n580, int i64 n581, int i64 n582, int i64 n583, int i64 n584]) fun w585 =>
 ∃ n586 : Int,
 ∃ n587 : Int,
 ∃ n588 : Int,
 ∃ p589 : Option Addr,
 ∃ k590 : Nat,
 ∃ k591 : Nat,
 ∃ n592 : Int,
 ∃ n593 : Int,
 ∃ n594 : Int,
 ∃ n595 : Int,
 ∃ n596 : Int,
 ∃ n597 : Int,
 ∃ n598 : Int,
 ∃ n599 : Int,
 (Row w585 ⟨b17, 0, none⟩ (0 : Nat) [int i64 n586, int i64 n587, int i64 n588, slice p589 k590 k591, int i64 n592, int i64 n593, int i64 n594, int i64 n595, int i64 n596, int i64 n597, int i64 n598, int i64 n599]) ∧
 R (returned (agg #[int i64 n586, int i64 n587, int i64 n588, slice p589 k590 k591, int i64 n592, int i64 n593, int i64 n594, int i64 n595, int i64 n596, int i64 n597, int i64 n598, int i64 n599])) w585))) ∧
 LetA (Obj.cells #[int i64 (0), int i64 (0), int i64 (0), slice none (0 : Nat) (0 : Nat), int i64 (0), int i64 (0), int i64 (0), int i64 (0), int i64 (0), int i64 (0), int i64 (0), int i64 (0)] (24 : Nat)) w52 fun b600 w601 =>
 (w601.cell? ⟨b15, 11, none⟩ = some (int i64 n32)) ∧
 (w601.cell? ⟨b15, 10, none⟩ = some (int i64 n31)) ∧
 (w601.cell? ⟨b15, 9, none⟩ = some (int i64 n30)) ∧
 Ca Try.prog (50 : Nat) #[int i64 n30, int i64 (4), int i64 (64)] w601 fun e602 w603 =>
 ∃ n604 : Int,
 (e602 = returned (int i64 n604)) ∧
 (w603.cell? ⟨b15, 11, none⟩ = some (int i64 n32)) ∧
 (w603.cell? ⟨b15, 10, none⟩ = some (int i64 n31)) ∧
 Ca Try.prog (50 : Nat) #[int i64 n31, int i64 (0), int i64 (16)] w603 fun e605 w606 =>
 ∃ n607 : Int,
 (e605 = returned (int i64 n607)) ∧
 (w606.cell? ⟨b15, 11, none⟩ = some (int i64 n32)) ∧
 Ca Try.prog (50 : Nat) #[int i64 n32, int i64 (1), int i64 (1099511627776)] w606 fun e608 w609 =>
 ∃ n610 : Int,
 (e608 = returned (int i64 n610)) ∧
 (WrRow w609 ⟨b600, 0, none⟩ (0 : Nat) [int i64 n22, int i64 n35, int i64 n38, slice none (0 : Nat) (0 : Nat), int i64 n41, int i64 n44, int i64 n47, int i64 n50, int i64 n53, int i64 n604, int i64 n607, int i64 n610]) ∧
 LetW (setRow w609 ⟨b600, 0, none⟩ (0 : Nat) [int i64 n22, int i64 n35, int i64 n38, slice none (0 : Nat) (0 : Nat), int i64 n41, int i64 n44, int i64 n47, int i64 n50, int i64 n53, int i64 n604, int i64 n607, int i64 n610]) fun w611 =>
 ∃ I612 : Nat → List Value → World → Prop,
 (∃ k613 : Nat,
 I612 k613 [int i64 (0)] w611) ∧
 ∀ n614 : Int,
 ∀ k615 : Nat,
 ∀ w616 : World,
 (I612 k615 [int i64 n614] w616) →
 ∃ p617 : Option Addr,
 ∃ k618 : Nat,
 ∃ k619 : Nat,
 (w616.cell? ⟨b15, 3, none⟩ = some (slice p617 k618 k619)) ∧
 Br (decide (n614 < (↑k618 : Int)))
 (Br (decide (n614 < (4 : Int)))
 (∃ p620 : Option Addr,
 ∃ k621 : Nat,
 ∃ k622 : Nat,
 (w616.cell? ⟨b600, 3, none⟩ = some (slice p620 k621 k622)) ∧
 ∃ p623 : Option Addr,
 ∃ k624 : Nat,
 ∃ k625 : Nat,
 (w616.cell? ⟨b15, 3, none⟩ = some (slice p623 k624 k625)) ∧
 NilOk p623 fun a626 =>
 ((
 (0 : Int) ≤ n614) ∧
 n614 < (↑k624 : Int)) ∧
 ∃ n627 : Int,
 (w616.cell? (a626.add (n614.toNat * (1 : Nat))) = some (int i64 n627)) ∧
 Ca Try.prog (50 : Nat) #[int i64 n627, int i64 (96), int i64 (65536)] w616 fun e628 w629 =>
 ∃ n630 : Int,
 (e628 = returned (int i64 n630)) ∧
 (w629.cell? ⟨b600, 3, none⟩ = some (slice p620 k621 k622)) ∧
 LetA (Obj.cells #[int i64 n630] (3 : Nat)) w629 fun b631 w632 =>
 (w632.cell? ⟨b600, 3, none⟩ = some (slice p620 k621 k622)) ∧
 RunsV Try.prog (Builtin.append_ #[(22 : Nat), (22 : Nat)] (22 : Nat) #[slice p620 k621 k622, slice (some ⟨b631, 0, none⟩) (1 : Nat) (1 : Nat)]) w632 fun v633 w634 =>
 ∃ p635 : Option Addr,
 ∃ k636 : Nat,
 ∃ k637 : Nat,
 (v633 = slice p635 k636 k637) ∧
 (Wr w634 ⟨b600, 3, none⟩) ∧
 LetW (w634.setCell ⟨b600, 3, none⟩ (slice p635 k636 k637)) fun w638 =>
 LetI (i64.wrap (n614 + (1 : Int))) fun n639 =>
 ∃ k640 : Nat,
 (k640 < k615) ∧
 I612 k640 [int i64 n639] w638)
 (∃ p641 : Option Addr,
 ∃ k642 : Nat,
 ∃ k643 : Nat,
 (w616.cell? ⟨b600, 3, none⟩ = some (slice p641 k642 k643)) ∧
 Br ((↑k642 : Int) == (0 : Int))
 (∃ p644 : Option Addr,
 ∃ k645 : Nat,
 ∃ k646 : Nat,
 (w616.cell? ⟨b600, 3, none⟩ = some (slice p644 k645 k646)) ∧
 LetA (Obj.cells #[int i64 (96)] (3 : Nat)) w616 fun b647 w648 =>
 RunsV Try.prog (Builtin.append_ #[(22 : Nat), (22 : Nat)] (22 : Nat) #[slice p644 k645 k646, slice (some ⟨b647, 0, none⟩) (1 : Nat) (1 : Nat)]) w648 fun v649 w650 =>
 ∃ p651 : Option Addr,
 ∃ k652 : Nat,
 ∃ k653 : Nat,
 (v649 = slice p651 k652 k653) ∧
 (Wr w650 ⟨b600, 3, none⟩) ∧
 LetW (w650.setCell ⟨b600, 3, none⟩ (slice p651 k652 k653)) fun w654 =>
 ∃ n655 : Int,
 ∃ n656 : Int,
 ∃ n657 : Int,
 ∃ p658 : Option Addr,
 ∃ k659 : Nat,
 ∃ k660 : Nat,
 ∃ n661 : Int,
 ∃ n662 : Int,
 ∃ n663 : Int,
 ∃ n664 : Int,
 ∃ n665 : Int,
 ∃ n666 : Int,
 ∃ n667 : Int,
 ∃ n668 : Int,
 (Row w654 ⟨b600, 0, none⟩ (0 : Nat) [int i64 n655, int i64 n656, int i64 n657, slice p658 k659 k660, int i64 n661, int i64 n662, int i64 n663, int i64 n664, int i64 n665, int i64 n666, int i64 n667, int i64 n668]) ∧
 (WrRow w654 ⟨b17, 0, none⟩ (0 : Nat) [int i64 n655, int i64 n656, int i64 n657, slice p658 k659 k660, int i64 n661, int i64 n662, int i64 n663, int i64 n664, int i64 n665, int i64 n666, int i64 n667, int i64 n668]) ∧
 LetW (setRow w654 ⟨b17, 0, none⟩ (0 : Nat) [int i64 n655, int i64 n656, int i64 n657, slice p658 k659 k660, int i64 n661, int i64 n662, int i64 n663, int i64 n664, int i64 n665, int i64 n666, int i64 n667, int i64 n668]) fun w669 =>
 ∃ n670 : Int,
 ∃ n671 : Int,
 ∃ n672 : Int,
 ∃ p673 : Option Addr,
 ∃ k674 : Nat,
 ∃ k675 : Nat,
 ∃ n676 : Int,
 ∃ n677 : Int,
 ∃ n678 : Int,
 ∃ n679 : Int,
 ∃ n680 : Int,
 ∃ n681 : Int,
 ∃ n682 : Int,
 ∃ n683 : Int,
 (Row w669 ⟨b17, 0, none⟩ (0 : Nat) [int i64 n670, int i64 n671, int i64 n672, slice p673 k674 k675, int i64 n676, int i64 n677, int i64 n678, int i64 n679, int i64 n680, int i64 n681, int i64 n682, int i64 n683]) ∧
 R (returned (agg #[int i64 n670, int i64 n671, int i64 n672, slice p673 k674 k675, int i64 n676, int i64 n677, int i64 n678, int i64 n679, int i64 n680, int i64 n681, int i64 n682, int i64 n683])) w669)
 (∃ n684 : Int,
 ∃ n685 : Int,
 ∃ n686 : Int,
 ∃ p687 : Option Addr,
 ∃ k688 : Nat,
 ∃ k689 : Nat,
 ∃ n690 : Int,
 ∃ n691 : Int,
 ∃ n692 : Int,
 ∃ n693 : Int,
 ∃ n694 : Int,
 ∃ n695 : Int,
 ∃ n696 : Int,
 ∃ n697 : Int,
 (Row w616 ⟨b600, 0, none⟩ (0 : Nat) [int i64 n684, int i64 n685, int i64 n686, slice p687 k688 k689, int i64 n690, int i64 n691, int i64 n692, int i64 n693, int i64 n694, int i64 n695, int i64 n696, int i64 n697]) ∧
 (WrRow w616 ⟨b17, 0, none⟩ (0 : Nat) [int i64 n684, int i64 n685, int i64 n686, slice p687 k688 k689, int i64 n690, int i64 n691, int i64 n692, int i64 n693, int i64 n694, int i64 n695, int i64 n696, int i64 n697]) ∧
 LetW (setRow w616 ⟨b17, 0, none⟩ (0 : Nat) [int i64 n684, int i64 n685, int i64 n686, slice p687 k688 k689, int i64 n690, int i64 n691, int i64 n692, int i64 n693, int i64 n694, int i64 n695, int i64 n696, int i64 n697]) fun w698 =>
 ∃ n699 : Int,
 ∃ n700 : Int,
 ∃ n701 : Int,
 ∃ p702 : Option Addr,
 ∃ k703 : Nat,
 ∃ k704 : Nat,
 ∃ n705 : Int,
 ∃ n706 : Int,
 ∃ n707 : Int,
 ∃ n708 : Int,
 ∃ n709 : Int,
 ∃ n710 : Int,
 ∃ n711 : Int,
 ∃ n712 : Int,
 (Row w698 ⟨b17, 0, none⟩ (0 : Nat) [int i64 n699, int i64 n700, int i64 n701, slice p702 k703 k704, int i64 n705, int i64 n706, int i64 n707, int i64 n708, int i64 n709, int i64 n710, int i64 n711, int i64 n712]) ∧
 R (returned (agg #[int i64 n699, int i64 n700, int i64 n701, slice p702 k703 k704, int i64 n705, int i64 n706, int i64 n707, int i64 n708, int i64 n709, int i64 n710, int i64 n711, int i64 n712])) w698)))
 (∃ p713 : Option Addr,
 ∃ k714 : Nat,
 ∃ k715 : Nat,
 (w616.cell? ⟨b600, 3, none⟩ = some (slice p713 k714 k715)) ∧
 Br ((↑k714 : Int) == (0 : Int))
 (∃ p716 : Option Addr,
 ∃ k717 : Nat,
 ∃ k718 : Nat,
 (w616.cell? ⟨b600, 3, none⟩ = some (slice p716 k717 k718)) ∧
 LetA (Obj.cells #[int i64 (96)] (3 : Nat)) w616 fun b719 w720 =>
 RunsV Try.prog (Builtin.append_ #[(22 : Nat), (22 : Nat)] (22 : Nat) #[slice p716 k717 k718, slice (some ⟨b719, 0, none⟩) (1 : Nat) (1 : Nat)]) w720 fun v721 w722 =>
 ∃ p723 : Option Addr,
 ∃ k724 : Nat,
 ∃ k725 : Nat,
 (v721 = slice p723 k724 k725) ∧
 (Wr w722 ⟨b600, 3, none⟩) ∧
 LetW (w722.setCell ⟨b600, 3, none⟩ (slice p723 k724 k725)) fun w726 =>
 ∃ n727 : Int,
 ∃ n728 : Int,
 ∃ n729 : Int,
 ∃ p730 : Option Addr,
 ∃ k731 : Nat,
 ∃ k732 : Nat,
 ∃ n733 : Int,
 ∃ n734 : Int,
 ∃ n735 : Int,
 ∃ n736 : Int,
 ∃ n737 : Int,
 ∃ n738 : Int,
 ∃ n739 : Int,
 ∃ n740 : Int,
 (Row w726 ⟨b600, 0, none⟩ (0 : Nat) [int i64 n727, int i64 n728, int i64 n729, slice p730 k731 k732, int i64 n733, int i64 n734, int i64 n735, int i64 n736, int i64 n737, int i64 n738, int i64 n739, int i64 n740]) ∧
 (WrRow w726 ⟨b17, 0, none⟩ (0 : Nat) [int i64 n727, int i64 n728, int i64 n729, slice p730 k731 k732, int i64 n733, int i64 n734, int i64 n735, int i64 n736, int i64 n737, int i64 n738, int i64 n739, int i64 n740]) ∧
 LetW (setRow w726 ⟨b17, 0, none⟩ (0 : Nat) [int i64 n727, int i64 n728, int i64 n729, slice p730 k731 k732, int i64 n733, int i64 n734, int i64 n735, int i64 n736, int i64 n737, int i64 n738, int i64 n739, int i64 n740]) fun w741 =>
 ∃ n742 : Int,
 ∃ n743 : Int,
 ∃ n744 : Int,
 ∃ p745 : Option Addr,
 ∃ k746 : Nat,
 ∃ k747 : Nat,
 ∃ n748 : Int,
 ∃ n749 : Int,
 ∃ n750 : Int,
 ∃ n751 : Int,
 ∃ n752 : Int,
 ∃ n753 : Int,
 ∃ n754 : Int,
 ∃ n755 : Int,
 (Row w741 ⟨b17, 0, none⟩ (0 : Nat) [int i64 n742, int i64 n743, int i64 n744, slice p745 k746 k747, int i64 n748, int i64 n749, int i64 n750, int i64 n751, int i64 n752, int i64 n753, int i64 n754, int i64 n755]) ∧
 R (returned (agg #[int i64 n742, int i64 n743, int i64 n744, slice p745 k746 k747, int i64 n748, int i64 n749, int i64 n750, int i64 n751, int i64 n752, int i64 n753, int i64 n754, int i64 n755])) w741)
 (∃ n756 : Int,
 ∃ n757 : Int,
 ∃ n758 : Int,
 ∃ p759 : Option Addr,
 ∃ k760 : Nat,
 ∃ k761 : Nat,
 ∃ n762 : Int,
 ∃ n763 : Int,
 ∃ n764 : Int,
 ∃ n765 : Int,
 ∃ n766 : Int,
 ∃ n767 : Int,
 ∃ n768 : Int,
 ∃ n769 : Int,
 (Row w616 ⟨b600, 0, none⟩ (0 : Nat) [int i64 n756, int i64 n757, int i64 n758, slice p759 k760 k761, int i64 n762, int i64 n763, int i64 n764, int i64 n765, int i64 n766, int i64 n767, int i64 n768, int i64 n769]) ∧
 (WrRow w616 ⟨b17, 0, none⟩ (0 : Nat) [int i64 n756, int i64 n757, int i64 n758, slice p759 k760 k761, int i64 n762, int i64 n763, int i64 n764, int i64 n765, int i64 n766, int i64 n767, int i64 n768, int i64 n769]) ∧
 LetW (setRow w616 ⟨b17, 0, none⟩ (0 : Nat) [int i64 n756, int i64 n757, int i64 n758, slice p759 k760 k761, int i64 n762, int i64 n763, int i64 n764, int i64 n765, int i64 n766, int i64 n767, int i64 n768, int i64 n769]) fun w770 =>
 ∃ n771 : Int,
 ∃ n772 : Int,
 ∃ n773 : Int,
 ∃ p774 : Option Addr,
 ∃ k775 : Nat,
 ∃ k776 : Nat,
 ∃ n777 : Int,
 ∃ n778 : Int,
 ∃ n779 : Int,
 ∃ n780 : Int,
 ∃ n781 : Int,
 ∃ n782 : Int,
 ∃ n783 : Int,
 ∃ n784 : Int,
 (Row w770 ⟨b17, 0, none⟩ (0 : Nat) [int i64 n771, int i64 n772, int i64 n773, slice p774 k775 k776, int i64 n777, int i64 n778, int i64 n779, int i64 n780, int i64 n781, int i64 n782, int i64 n783, int i64 n784]) ∧
 R (returned (agg #[int i64 n771, int i64 n772, int i64 n773, slice p774 k775 k776, int i64 n777, int i64 n778, int i64 n779, int i64 n780, int i64 n781, int i64 n782, int i64 n783, int i64 n784])) w770))) ∧
 LetA (Obj.cells #[int i64 (0), int i64 (0), int i64 (0), slice none (0 : Nat) (0 : Nat), int i64 (0), int i64 (0), int i64 (0), int i64 (0), int i64 (0), int i64 (0), int i64 (0), int i64 (0)] (24 : Nat)) w49 fun b785 w786 =>
 (w786.cell? ⟨b15, 11, none⟩ = some (int i64 n32)) ∧
 (w786.cell? ⟨b15, 10, none⟩ = some (int i64 n31)) ∧
 (w786.cell? ⟨b15, 9, none⟩ = some (int i64 n30)) ∧
 (w786.cell? ⟨b15, 8, none⟩ = some (int i64 n29)) ∧
 Ca Try.prog (50 : Nat) #[int i64 n29, int i64 (4), int i64 (64)] w786 fun e787 w788 =>
 ∃ n789 : Int,
 (e787 = returned (int i64 n789)) ∧
 (w788.cell? ⟨b15, 11, none⟩ = some (int i64 n32)) ∧
 (w788.cell? ⟨b15, 10, none⟩ = some (int i64 n31)) ∧
 (w788.cell? ⟨b15, 9, none⟩ = some (int i64 n30)) ∧
 Ca Try.prog (50 : Nat) #[int i64 n30, int i64 (4), int i64 (64)] w788 fun e790 w791 =>
 ∃ n792 : Int,
 (e790 = returned (int i64 n792)) ∧
 (w791.cell? ⟨b15, 11, none⟩ = some (int i64 n32)) ∧
 (w791.cell? ⟨b15, 10, none⟩ = some (int i64 n31)) ∧
 Ca Try.prog (50 : Nat) #[int i64 n31, int i64 (0), int i64 (16)] w791 fun e793 w794 =>
 ∃ n795 : Int,
 (e793 = returned (int i64 n795)) ∧
 (w794.cell? ⟨b15, 11, none⟩ = some (int i64 n32)) ∧
 Ca Try.prog (50 : Nat) #[int i64 n32, int i64 (1), int i64 (1099511627776)] w794 fun e796 w797 =>
 ∃ n798 : Int,
 (e796 = returned (int i64 n798)) ∧
 (WrRow w797 ⟨b785, 0, none⟩ (0 : Nat) [int i64 n22, int i64 n35, int i64 n38, slice none (0 : Nat) (0 : Nat), int i64 n41, int i64 n44, int i64 n47, int i64 n50, int i64 n789, int i64 n792, int i64 n795, int i64 n798]) ∧
 LetW (setRow w797 ⟨b785, 0, none⟩ (0 : Nat) [int i64 n22, int i64 n35, int i64 n38, slice none (0 : Nat) (0 : Nat), int i64 n41, int i64 n44, int i64 n47, int i64 n50, int i64 n789, int i64 n792, int i64 n795, int i64 n798]) fun w799 =>
 ∃ I800 : Nat → List Value → World → Prop,
 (∃ k801 : Nat,
 I800 k801 [int i64 (0)] w799) ∧
 ∀ n802 : Int,
 ∀ k803 : Nat,
 ∀ w804 : World,
 (I800 k803 [int i64 n802] w804) →
 ∃ p805 : Option Addr,
 ∃ k806 : Nat,
 ∃ k807 : Nat,
 (w804.cell? ⟨b15, 3, none⟩ = some (slice p805 k806 k807)) ∧
 Br (decide (n802 < (↑k806 : Int)))
 (Br (decide (n802 < (4 : Int)))
 (∃ p808 : Option Addr,
 ∃ k809 : Nat,
 ∃ k810 : Nat,
 (w804.cell? ⟨b785, 3, none⟩ = some (slice p808 k809 k810)) ∧
 ∃ p811 : Option Addr,
 ∃ k812 : Nat,
 ∃ k813 : Nat,
 (w804.cell? ⟨b15, 3, none⟩ = some (slice p811 k812 k813)) ∧
 NilOk p811 fun a814 =>
 ((
 (0 : Int) ≤ n802) ∧
 n802 < (↑k812 : Int)) ∧
 ∃ n815 : Int,
 (w804.cell? (a814.add (n802.toNat * (1 : Nat))) = some (int i64 n815)) ∧
 Ca Try.prog (50 : Nat) #[int i64 n815, int i64 (96), int i64 (65536)] w804 fun e816 w817 =>
 ∃ n818 : Int,
 (e816 = returned (int i64 n818)) ∧
 (w817.cell? ⟨b785, 3, none⟩ = some (slice p808 k809 k810)) ∧
 LetA (Obj.cells #[int i64 n818] (3 : Nat)) w817 fun b819 w820 =>
 (w820.cell? ⟨b785, 3, none⟩ = some (slice p808 k809 k810)) ∧
 RunsV Try.prog (Builtin.append_ #[(22 : Nat), (22 : Nat)] (22 : Nat) #[slice p808 k809 k810, slice (some ⟨b819, 0, none⟩) (1 : Nat) (1 : Nat)]) w820 fun v821 w822 =>
 ∃ p823 : Option Addr,
 ∃ k824 : Nat,
 ∃ k825 : Nat,
 (v821 = slice p823 k824 k825) ∧
 (Wr w822 ⟨b785, 3, none⟩) ∧
 LetW (w822.setCell ⟨b785, 3, none⟩ (slice p823 k824 k825)) fun w826 =>
 LetI (i64.wrap (n802 + (1 : Int))) fun n827 =>
 ∃ k828 : Nat,
 (k828 < k803) ∧
 I800 k828 [int i64 n827] w826)
 (∃ p829 : Option Addr,
 ∃ k830 : Nat,
 ∃ k831 : Nat,
 (w804.cell? ⟨b785, 3, none⟩ = some (slice p829 k830 k831)) ∧
 Br ((↑k830 : Int) == (0 : Int))
 (∃ p832 : Option Addr,
 ∃ k833 : Nat,
 ∃ k834 : Nat,
 (w804.cell? ⟨b785, 3, none⟩ = some (slice p832 k833 k834)) ∧
 LetA (Obj.cells #[int i64 (96)] (3 : Nat)) w804 fun b835 w836 =>
 RunsV Try.prog (Builtin.append_ #[(22 : Nat), (22 : Nat)] (22 : Nat) #[slice p832 k833 k834, slice (some ⟨b835, 0, none⟩) (1 : Nat) (1 : Nat)]) w836 fun v837 w838 =>
 ∃ p839 : Option Addr,
 ∃ k840 : Nat,
 ∃ k841 : Nat,
 (v837 = slice p839 k840 k841) ∧
 (Wr w838 ⟨b785, 3, none⟩) ∧
 LetW (w838.setCell ⟨b785, 3, none⟩ (slice p839 k840 k841)) fun w842 =>
 ∃ n843 : Int,
 ∃ n844 : Int,
 ∃ n845 : Int,
 ∃ p846 : Option Addr,
 ∃ k847 : Nat,
 ∃ k848 : Nat,
 ∃ n849 : Int,
 ∃ n850 : Int,
 ∃ n851 : Int,
 ∃ n852 : Int,
 ∃ n853 : Int,
 ∃ n854 : Int,
 ∃ n855 : Int,
 ∃ n856 : Int,
 (Row w842 ⟨b785, 0, none⟩ (0 : Nat) [int i64 n843, int i64 n844, int i64 n845, slice p846 k847 k848, int i64 n849, int i64 n850, int i64 n851, int i64 n852, int i64 n853, int i64 n854, int i64 n855, int i64 n856]) ∧
 (WrRow w842 ⟨b17, 0, none⟩ (0 : Nat) [int i64 n843, int i64 n844, int i64 n845, slice p846 k847 k848, int i64 n849, int i64 n850, int i64 n851, int i64 n852, int i64 n853, int i64 n854, int i64 n855, int i64 n856]) ∧
 LetW (setRow w842 ⟨b17, 0, none⟩ (0 : Nat) [int i64 n843, int i64 n844, int i64 n845, slice p846 k847 k848, int i64 n849, int i64 n850, int i64 n851, int i64 n852, int i64 n853, int i64 n854, int i64 n855, int i64 n856]) fun w857 =>
 ∃ n858 : Int,
 ∃ n859 : Int,
 ∃ n860 : Int,
 ∃ p861 : Option Addr,
 ∃ k862 : Nat,
 ∃ k863 : Nat,
 ∃ n864 : Int,
 ∃ n865 : Int,
 ∃ n866 : Int,
 ∃ n867 : Int,
 ∃ n868 : Int,
 ∃ n869 : Int,
 ∃ n870 : Int,
 ∃ n871 : Int,
 (Row w857 ⟨b17, 0, none⟩ (0 : Nat) [int i64 n858, int i64 n859, int i64 n860, slice p861 k862 k863, int i64 n864, int i64 n865, int i64 n866, int i64 n867, int i64 n868, int i64 n869, int i64 n870, int i64 n871]) ∧
 R (returned (agg #[int i64 n858, int i64 n859, int i64 n860, slice p861 k862 k863, int i64 n864, int i64 n865, int i64 n866, int i64 n867, int i64 n868, int i64 n869, int i64 n870, int i64 n871])) w857)
 (∃ n872 : Int,
 ∃ n873 : Int,
 ∃ n874 : Int,
 ∃ p875 : Option Addr,
 ∃ k876 : Nat,
 ∃ k877 : Nat,
 ∃ n878 : Int,
 ∃ n879 : Int,
 ∃ n880 : Int,
 ∃ n881 : Int,
 ∃ n882 : Int,
 ∃ n883 : Int,
 ∃ n884 : Int,
 ∃ n885 : Int,
 (Row w804 ⟨b785, 0, none⟩ (0 : Nat) [int i64 n872, int i64 n873, int i64 n874, slice p875 k876 k877, int i64 n878, int i64 n879, int i64 n880, int i64 n881, int i64 n882, int i64 n883, int i64 n884, int i64 n885]) ∧
 (WrRow w804 ⟨b17, 0, none⟩ (0 : Nat) [int i64 n872, int i64 n873, int i64 n874, slice p875 k876 k877, int i64 n878, int i64 n879, int i64 n880, int i64 n881, int i64 n882, int i64 n883, int i64 n884, int i64 n885]) ∧
 LetW (setRow w804 ⟨b17, 0, none⟩ (0 : Nat) [int i64 n872, int i64 n873, int i64 n874, slice p875 k876 k877, int i64 n878, int i64 n879, int i64 n880, int i64 n881, int i64 n882, int i64 n883, int i64 n884, int i64 n885]) fun w886 =>
 ∃ n887 : Int,
 ∃ n888 : Int,
 ∃ n889 : Int,
 ∃ p890 : Option Addr,
 ∃ k891 : Nat,
 ∃ k892 : Nat,
 ∃ n893 : Int,
 ∃ n894 : Int,
 ∃ n895 : Int,
 ∃ n896 : Int,
 ∃ n897 : Int,
 ∃ n898 : Int,
 ∃ n899 : Int,
 ∃ n900 : Int,
 (Row w886 ⟨b17, 0, none⟩ (0 : Nat) [int i64 n887, int i64 n888, int i64 n889, slice p890 k891 k892, int i64 n893, int i64 n894, int i64 n895, int i64 n896, int i64 n897, int i64 n898, int i64 n899, int i64 n900]) ∧
 R (returned (agg #[int i64 n887, int i64 n888, int i64 n889, slice p890 k891 k892, int i64 n893, int i64 n894, int i64 n895, int i64 n896, int i64 n897, int i64 n898, int i64 n899, int i64 n900])) w886)))
 (∃ p901 : Option Addr,
 ∃ k902 : Nat,
 ∃ k903 : Nat,
 (w804.cell? ⟨b785, 3, none⟩ = some (slice p901 k902 k903)) ∧
 Br ((↑k902 : Int) == (0 : Int))
 (∃ p904 : Option Addr,
 ∃ k905 : Nat,
 ∃ k906 : Nat,
 (w804.cell? ⟨b785, 3, none⟩ = some (slice p904 k905 k906)) ∧
 LetA (Obj.cells #[int i64 (96)] (3 : Nat)) w804 fun b907 w908 =>
 RunsV Try.prog (Builtin.append_ #[(22 : Nat), (22 : Nat)] (22 : Nat) #[slice p904 k905 k906, slice (some ⟨b907, 0, none⟩) (1 : Nat) (1 : Nat)]) w908 fun v909 w910 =>
 ∃ p911 : Option Addr,
 ∃ k912 : Nat,
 ∃ k913 : Nat,
 (v909 = slice p911 k912 k913) ∧
 (Wr w910 ⟨b785, 3, none⟩) ∧
 LetW (w910.setCell ⟨b785, 3, none⟩ (slice p911 k912 k913)) fun w914 =>
 ∃ n915 : Int,
 ∃ n916 : Int,
 ∃ n917 : Int,
 ∃ p918 : Option Addr,
 ∃ k919 : Nat,
 ∃ k920 : Nat,
 ∃ n921 : Int,
 ∃ n922 : Int,
 ∃ n923 : Int,
 ∃ n924 : Int,
 ∃ n925 : Int,
 ∃ n926 : Int,
 ∃ n927 : Int,
 ∃ n928 : Int,
 (Row w914 ⟨b785, 0, none⟩ (0 : Nat) [int i64 n915, int i64 n916, int i64 n917, slice p918 k919 k920, int i64 n921, int i64 n922, int i64 n923, int i64 n924, int i64 n925, int i64 n926, int i64 n927, int i64 n928]) ∧
 (WrRow w914 ⟨b17, 0, none⟩ (0 : Nat) [int i64 n915, int i64 n916, int i64 n917, slice p918 k919 k920, int i64 n921, int i64 n922, int i64 n923, int i64 n924, int i64 n925, int i64 n926, int i64 n927, int i64 n928]) ∧
 LetW (setRow w914 ⟨b17, 0, none⟩ (0 : Nat) [int i64 n915, int i64 n916, int i64 n917, slice p918 k919 k920, int i64 n921, int i64 n922, int i64 n923, int i64 n924, int i64 n925, int i64 n926, int i64 n927, int i64 n928]) fun w929 =>
 ∃ n930 : Int,
 ∃ n931 : Int,
 ∃ n932 : Int,
 ∃ p933 : Option Addr,
 ∃ k934 : Nat,
 ∃ k935 : Nat,
 ∃ n936 : Int,
 ∃ n937 : Int,
 ∃ n938 : Int,
 ∃ n939 : Int,
 ∃ n940 : Int,
 ∃ n941 : Int,
 ∃ n942 : Int,
 ∃ n943 : Int,
 (Row w929 ⟨b17, 0, none⟩ (0 : Nat) [int i64 n930, int i64 n931, int i64 n932, slice p933 k934 k935, int i64 n936, int i64 n937, int i64 n938, int i64 n939, int i64 n940, int i64 n941, int i64 n942, int i64 n943]) ∧
 R (returned (agg #[int i64 n930, int i64 n931, int i64 n932, slice p933 k934 k935, int i64 n936, int i64 n937, int i64 n938, int i64 n939, int i64 n940, int i64 n941, int i64 n942, int i64 n943])) w929)
 (∃ n944 : Int,
 ∃ n945 : Int,
 ∃ n946 : Int,
 ∃ p947 : Option Addr,
 ∃ k948 : Nat,
 ∃ k949 : Nat,
 ∃ n950 : Int,
 ∃ n951 : Int,
 ∃ n952 : Int,
 ∃ n953 : Int,
 ∃ n954 : Int,
 ∃ n955 : Int,
 ∃ n956 : Int,
 ∃ n957 : Int,
 (Row w804 ⟨b785, 0, none⟩ (0 : Nat) [int i64 n944, int i64 n945, int i64 n946, slice p947 k948 k949, int i64 n950, int i64 n951, int i64 n952, int i64 n953, int i64 n954, int i64 n955, int i64 n956, int i64 n957]) ∧
 (WrRow w804 ⟨b17, 0, none⟩ (0 : Nat) [int i64 n944, int i64 n945, int i64 n946, slice p947 k948 k949, int i64 n950, int i64 n951, int i64 n952, int i64 n953, int i64 n954, int i64 n955, int i64 n956, int i64 n957]) ∧
 LetW (setRow w804 ⟨b17, 0, none⟩ (0 : Nat) [int i64 n944, int i64 n945, int i64 n946, slice p947 k948 k949, int i64 n950, int i64 n951, int i64 n952, int i64 n953, int i64 n954, int i64 n955, int i64 n956, int i64 n957]) fun w958 =>
 ∃ n959 : Int,
 ∃ n960 : Int,
 ∃ n961 : Int,
 ∃ p962 : Option Addr,
 ∃ k963 : Nat,
 ∃ k964 : Nat,
 ∃ n965 : Int,
 ∃ n966 : Int,
 ∃ n967 : Int,
 ∃ n968 : Int,
 ∃ n969 : Int,
 ∃ n970 : Int,
 ∃ n971 : Int,
 ∃ n972 : Int,
 (Row w958 ⟨b17, 0, none⟩ (0 : Nat) [int i64 n959, int i64 n960, int i64 n961, slice p962 k963 k964, int i64 n965, int i64 n966, int i64 n967, int i64 n968, int i64 n969, int i64 n970, int i64 n971, int i64 n972]) ∧
 R (returned (agg #[int i64 n959, int i64 n960, int i64 n961, slice p962 k963 k964, int i64 n965, int i64 n966, int i64 n967, int i64 n968, int i64 n969, int i64 n970, int i64 n971, int i64 n972])) w958))) ∧
 LetA (Obj.cells #[int i64 (0), int i64 (0), int i64 (0), slice none (0 : Nat) (0 : Nat), int i64 (0), int i64 (0), int i64 (0), int i64 (0), int i64 (0), int i64 (0), int i64 (0), int i64 (0)] (24 : Nat)) w46 fun b973 w974 =>
 (w974.cell? ⟨b15, 11, none⟩ = some (int i64 n32)) ∧
 (w974.cell? ⟨b15, 10, none⟩ = some (int i64 n31)) ∧
 (w974.cell? ⟨b15, 9, none⟩ = some (int i64 n30)) ∧
 (w974.cell? ⟨b15, 8, none⟩ = some (int i64 n29)) ∧
 (w974.cell? ⟨b15, 7, none⟩ = some (int i64 n28)) ∧
 Ca Try.prog (50 : Nat) #[int i64 n28, int i64 (4), int i64 (64)] w974 fun e975 w976 =>
 ∃ n977 : Int,
 (e975 = returned (int i64 n977)) ∧
 (w976.cell? ⟨b15, 11, none⟩ = some (int i64 n32)) ∧
 (w976.cell? ⟨b15, 10, none⟩ = some (int i64 n31)) ∧
 (w976.cell? ⟨b15, 9, none⟩ = some (int i64 n30)) ∧
 (w976.cell? ⟨b15, 8, none⟩ = some (int i64 n29)) ∧
 Ca Try.prog (50 : Nat) #[int i64 n29, int i64 (4), int i64 (64)] w976 fun e978 w979 =>
 ∃ n980 : Int,
 (e978 = returned (int i64 n980)) ∧
 (w979.cell? ⟨b15, 11, none⟩ = some (int i64 n32)) ∧
 (w979.cell? ⟨b15, 10, none⟩ = some (int i64 n31)) ∧
 (w979.cell? ⟨b15, 9, none⟩ = some (int i64 n30)) ∧
 Ca Try.prog (50 : Nat) #[int i64 n30, int i64 (4), int i64 (64)] w979 fun e981 w982 =>
 ∃ n983 : Int,
 (e981 = returned (int i64 n983)) ∧
 (w982.cell? ⟨b15, 11, none⟩ = some (int i64 n32)) ∧
 (w982.cell? ⟨b15, 10, none⟩ = some (int i64 n31)) ∧
 Ca Try.prog (50 : Nat) #[int i64 n31, int i64 (0), int i64 (16)] w982 fun e984 w985 =>
 ∃ n986 : Int,
 (e984 = returned (int i64 n986)) ∧
 (w985.cell? ⟨b15, 11, none⟩ = some (int i64 n32)) ∧
 Ca Try.prog (50 : Nat) #[int i64 n32, int i64 (1), int i64 (1099511627776)] w985 fun e987 w988 =>
 ∃ n989 : Int,
 (e987 = returned (int i64 n989)) ∧
 (WrRow w988 ⟨b973, 0, none⟩ (0 : Nat) [int i64 n22, int i64 n35, int i64 n38, slice none (0 : Nat) (0 : Nat), int i64 n41, int i64 n44, int i64 n47, int i64 n977, int i64 n980, int i64 n983, int i64 n986, int i64 n989]) ∧
 LetW (setRow w988 ⟨b973, 0, none⟩ (0 : Nat) [int i64 n22, int i64 n35, int i64 n38, slice none (0 : Nat) (0 : Nat), int i64 n41, int i64 n44, int i64 n47, int i64 n977, int i64 n980, int i64 n983, int i64 n986, int i64 n989]) fun w990 =>
 ∃ I991 : Nat → List Value → World → Prop,
 (∃ k992 : Nat,
 I991 k992 [int i64 (0)] w990) ∧
 ∀ n993 : Int,
 ∀ k994 : Nat,
 ∀ w995 : World,
 (I991 k994 [int i64 n993] w995) →
 ∃ p996 : Option Addr,
 ∃ k997 : Nat,
 ∃ k998 : Nat,
 (w995.cell? ⟨b15, 3, none⟩ = some (slice p996 k997 k998)) ∧
 Br (decide (n993 < (↑k997 : Int)))
 (Br (decide (n993 < (4 : Int)))
 (∃ p999 : Option Addr,
 ∃ k1000 : Nat,
 ∃ k1001 : Nat,
 (w995.cell? ⟨b973, 3, none⟩ = some (slice p999 k1000 k1001)) ∧
 ∃ p1002 : Option Addr,
 ∃ k1003 : Nat,
 ∃ k1004 : Nat,
 (w995.cell? ⟨b15, 3, none⟩ = some (slice p1002 k1003 k1004)) ∧
 NilOk p1002 fun a1005 =>
 ((
 (0 : Int) ≤ n993) ∧
 n993 < (↑k1003 : Int)) ∧
 ∃ n1006 : Int,
 (w995.cell? (a1005.add (n993.toNat * (1 : Nat))) = some (int i64 n1006)) ∧
 Ca Try.prog (50 : Nat) #[int i64 n1006, int i64 (96), int i64 (65536)] w995 fun e1007 w1008 =>
 ∃ n1009 : Int,
 (e1007 = returned (int i64 n1009)) ∧
 (w1008.cell? ⟨b973, 3, none⟩ = some (slice p999 k1000 k1001)) ∧
 LetA (Obj.cells #[int i64 n1009] (3 : Nat)) w1008 fun b1010 w1011 =>
 (w1011.cell? ⟨b973, 3, none⟩ = some (slice p999 k1000 k1001)) ∧
 RunsV Try.prog (Builtin.append_ #[(22 : Nat), (22 : Nat)] (22 : Nat) #[slice p999 k1000 k1001, slice (some ⟨b1010, 0, none⟩) (1 : Nat) (1 : Nat)]) w1011 fun v1012 w1013 =>
 ∃ p1014 : Option Addr,
 ∃ k1015 : Nat,
 ∃ k1016 : Nat,
 (v1012 = slice p1014 k1015 k1016) ∧
 (Wr w1013 ⟨b973, 3, none⟩) ∧
 LetW (w1013.setCell ⟨b973, 3, none⟩ (slice p1014 k1015 k1016)) fun w1017 =>
 LetI (i64.wrap (n993 + (1 : Int))) fun n1018 =>
 ∃ k1019 : Nat,
 (k1019 < k994) ∧
 I991 k1019 [int i64 n1018] w1017)
 (∃ p1020 : Option Addr,
 ∃ k1021 : Nat,
 ∃ k1022 : Nat,
 (w995.cell? ⟨b973, 3, none⟩ = some (slice p1020 k1021 k1022)) ∧
 Br ((↑k1021 : Int) == (0 : Int))
 (∃ p1023 : Option Addr,
 ∃ k1024 : Nat,
 ∃ k1025 : Nat,
 (w995.cell? ⟨b973, 3, none⟩ = some (slice p1023 k1024 k1025)) ∧
 LetA (Obj.cells #[int i64 (96)] (3 : Nat)) w995 fun b1026 w1027 =>
 RunsV Try.prog (Builtin.append_ #[(22 : Nat), (22 : Nat)] (22 : Nat) #[slice p1023 k1024 k1025, slice (some ⟨b1026, 0, none⟩) (1 : Nat) (1 : Nat)]) w1027 fun v1028 w1029 =>
 ∃ p1030 : Option Addr,
 ∃ k1031 : Nat,
 ∃ k1032 : Nat,
 (v1028 = slice p1030 k1031 k1032) ∧
 (Wr w1029 ⟨b973, 3, none⟩) ∧
 LetW (w1029.setCell ⟨b973, 3, none⟩ (slice p1030 k1031 k1032)) fun w1033 =>
 ∃ n1034 : Int,
 ∃ n1035 : Int,
 ∃ n1036 : Int,
 ∃ p1037 : Option Addr,
 ∃ k1038 : Nat,
 ∃ k1039 : Nat,
 ∃ n1040 : Int,
 ∃ n1041 : Int,
 ∃ n1042 : Int,
 ∃ n1043 : Int,
 ∃ n1044 : Int,
 ∃ n1045 : Int,
 ∃ n1046 : Int,
 ∃ n1047 : Int,
 (Row w1033 ⟨b973, 0, none⟩ (0 : Nat) [int i64 n1034, int i64 n1035, int i64 n1036, slice p1037 k1038 k1039, int i64 n1040, int i64 n1041, int i64 n1042, int i64 n1043, int i64 n1044, int i64 n1045, int i64 n1046, int i64 n1047]) ∧
 (WrRow w1033 ⟨b17, 0, none⟩ (0 : Nat) [int i64 n1034, int i64 n1035, int i64 n1036, slice p1037 k1038 k1039, int i64 n1040, int i64 n1041, int i64 n1042, int i64 n1043, int i64 n1044, int i64 n1045, int i64 n1046, int i64 n1047]) ∧
 LetW (setRow w1033 ⟨b17, 0, none⟩ (0 : Nat) [int i64 n1034, int i64 n1035, int i64 n1036, slice p1037 k1038 k1039, int i64 n1040, int i64 n1041, int i64 n1042, int i64 n1043, int i64 n1044, int i64 n1045, int i64 n1046, int i64 n1047]) fun w1048 =>
 ∃ n1049 : Int,
 ∃ n1050 : Int,
 ∃ n1051 : Int,
 ∃ p1052 : Option Addr,
 ∃ k1053 : Nat,
 ∃ k1054 : Nat,
 ∃ n1055 : Int,
 ∃ n1056 : Int,
 ∃ n1057 : Int,
 ∃ n1058 : Int,
 ∃ n1059 : Int,
 ∃ n1060 : Int,
 ∃ n1061 : Int,
 ∃ n1062 : Int,
 (Row w1048 ⟨b17, 0, none⟩ (0 : Nat) [int i64 n1049, int i64 n1050, int i64 n1051, slice p1052 k1053 k1054, int i64 n1055, int i64 n1056, int i64 n1057, int i64 n1058, int i64 n1059, int i64 n1060, int i64 n1061, int i64 n1062]) ∧
 R (returned (agg #[int i64 n1049, int i64 n1050, int i64 n1051, slice p1052 k1053 k1054, int i64 n1055, int i64 n1056, int i64 n1057, int i64 n1058, int i64 n1059, int i64 n1060, int i64 n1061, int i64 n1062])) w1048)
 (∃ n1063 : Int,
 ∃ n1064 : Int,
 ∃ n1065 : Int,
 ∃ p1066 : Option Addr,
 ∃ k1067 : Nat,
 ∃ k1068 : Nat,
 ∃ n1069 : Int,
 ∃ n1070 : Int,
 ∃ n1071 : Int,
 ∃ n1072 : Int,
 ∃ n1073 : Int,
 ∃ n1074 : Int,
 ∃ n1075 : Int,
 ∃ n1076 : Int,
 (Row w995 ⟨b973, 0, none⟩ (0 : Nat) [int i64 n1063, int i64 n1064, int i64 n1065, slice p1066 k1067 k1068, int i64 n1069, int i64 n1070, int i64 n1071, int i64 n1072, int i64 n1073, int i64 n1074, int i64 n1075, int i64 n1076]) ∧
 (WrRow w995 ⟨b17, 0, none⟩ (0 : Nat) [int i64 n1063, int i64 n1064, int i64 n1065, slice p1066 k1067 k1068, int i64 n1069, int i64 n1070, int i64 n1071, int i64 n1072, int i64 n1073, int i64 n1074, int i64 n1075, int i64 n1076]) ∧
 LetW (setRow w995 ⟨b17, 0, none⟩ (0 : Nat) [int i64 n1063, int i64 n1064, int i64 n1065, slice p1066 k1067 k1068, int i64 n1069, int i64 n1070, int i64 n1071, int i64 n1072, int i64 n1073, int i64 n1074, int i64 n1075, int i64 n1076]) fun w1077 =>
 ∃ n1078 : Int,
 ∃ n1079 : Int,
 ∃ n1080 : Int,
 ∃ p1081 : Option Addr,
 ∃ k1082 : Nat,
 ∃ k1083 : Nat,
 ∃ n1084 : Int,
 ∃ n1085 : Int,
 ∃ n1086 : Int,
 ∃ n1087 : Int,
 ∃ n1088 : Int,
 ∃ n1089 : Int,
 ∃ n1090 : Int,
 ∃ n1091 : Int,
 (Row w1077 ⟨b17, 0, none⟩ (0 : Nat) [int i64 n1078, int i64 n1079, int i64 n1080, slice p1081 k1082 k1083, int i64 n1084, int i64 n1085, int i64 n1086, int i64 n1087, int i64 n1088, int i64 n1089, int i64 n1090, int i64 n1091]) ∧
 R (returned (agg #[int i64 n1078, int i64 n1079, int i64 n1080, slice p1081 k1082 k1083, int i64 n1084, int i64 n1085, int i64 n1086, int i64 n1087, int i64 n1088, int i64 n1089, int i64 n1090, int i64 n1091])) w1077)))
 (∃ p1092 : Option Addr,
 ∃ k1093 : Nat,
 ∃ k1094 : Nat,
 (w995.cell? ⟨b973, 3, none⟩ = some (slice p1092 k1093 k1094)) ∧
 Br ((↑k1093 : Int) == (0 : Int))
 (∃ p1095 : Option Addr,
 ∃ k1096 : Nat,
 ∃ k1097 : Nat,
 (w995.cell? ⟨b973, 3, none⟩ = some (slice p1095 k1096 k1097)) ∧
 LetA (Obj.cells #[int i64 (96)] (3 : Nat)) w995 fun b1098 w1099 =>
 RunsV Try.prog (Builtin.append_ #[(22 : Nat), (22 : Nat)] (22 : Nat) #[slice p1095 k1096 k1097, slice (some ⟨b1098, 0, none⟩) (1 : Nat) (1 : Nat)]) w1099 fun v1100 w1101 =>
 ∃ p1102 : Option Addr,
 ∃ k1103 : Nat,
 ∃ k1104 : Nat,
 (v1100 = slice p1102 k1103 k1104) ∧
 (Wr w1101 ⟨b973, 3, none⟩) ∧
 LetW (w1101.setCell ⟨b973, 3, none⟩ (slice p1102 k1103 k1104)) fun w1105 =>
 ∃ n1106 : Int,
 ∃ n1107 : Int,
 ∃ n1108 : Int,
 ∃ p1109 : Option Addr,
 ∃ k1110 : Nat,
 ∃ k1111 : Nat,
 ∃ n1112 : Int,
 ∃ n1113 : Int,
 ∃ n1114 : Int,
 ∃ n1115 : Int,
 ∃ n1116 : Int,
 ∃ n1117 : Int,
 ∃ n1118 : Int,
 ∃ n1119 : Int,
 (Row w1105 ⟨b973, 0, none⟩ (0 : Nat) [int i64 n1106, int i64 n1107, int i64 n1108, slice p1109 k1110 k1111, int i64 n1112, int i64 n1113, int i64 n1114, int i64 n1115, int i64 n1116, int i64 n1117, int i64 n1118, int i64 n1119]) ∧
 (WrRow w1105 ⟨b17, 0, none⟩ (0 : Nat) [int i64 n1106, int i64 n1107, int i64 n1108, slice p1109 k1110 k1111, int i64 n1112, int i64 n1113, int i64 n1114, int i64 n1115, int i64 n1116, int i64 n1117, int i64 n1118, int i64 n1119]) ∧
 LetW (setRow w1105 ⟨b17, 0, none⟩ (0 : Nat) [int i64 n1106, int i64 n1107, int i64 n1108, slice p1109 k1110 k1111, int i64 n1112, int i64 n1113, int i64 n1114, int i64 n1115, int i64 n1116, int i64 n1117, int i64 n1118, int i64 n1119]) fun w1120 =>
 ∃ n1121 : Int,
 ∃ n1122 : Int,
 ∃ n1123 : Int,
 ∃ p1124 : Option Addr,
 ∃ k1125 : Nat,
 ∃ k1126 : Nat,
 ∃ n1127 : Int,
 ∃ n1128 : Int,
 ∃ n1129 : Int,
 ∃ n1130 : Int,
 ∃ n1131 : Int,
 ∃ n1132 : Int,
 ∃ n1133 : Int,
 ∃ n1134 : Int,
 (Row w1120 ⟨b17, 0, none⟩ (0 : Nat) [int i64 n1121, int i64 n1122, int i64 n1123, slice p1124 k1125 k1126, int i64 n1127, int i64 n1128, int i64 n1129, int i64 n1130, int i64 n1131, int i64 n1132, int i64 n1133, int i64 n1134]) ∧
 R (returned (agg #[int i64 n1121, int i64 n1122, int i64 n1123, slice p1124 k1125 k1126, int i64 n1127, int i64 n1128, int i64 n1129, int i64 n1130, int i64 n1131, int i64 n1132, int i64 n1133, int i64 n1134])) w1120)
 (∃ n1135 : Int,
 ∃ n1136 : Int,
 ∃ n1137 : Int,
 ∃ p1138 : Option Addr,
 ∃ k1139 : Nat,
 ∃ k1140 : Nat,
 ∃ n1141 : Int,
 ∃ n1142 : Int,
 ∃ n1143 : Int,
 ∃ n1144 : Int,
 ∃ n1145 : Int,
 ∃ n1146 : Int,
 ∃ n1147 : Int,
 ∃ n1148 : Int,
 (Row w995 ⟨b973, 0, none⟩ (0 : Nat) [int i64 n1135, int i64 n1136, int i64 n1137, slice p1138 k1139 k1140, int i64 n1141, int i64 n1142, int i64 n1143, int i64 n1144, int i64 n1145, int i64 n1146, int i64 n1147, int i64 n1148]) ∧
 (WrRow w995 ⟨b17, 0, none⟩ (0 : Nat) [int i64 n1135, int i64 n1136, int i64 n1137, slice p1138 k1139 k1140, int i64 n1141, int i64 n1142, int i64 n1143, int i64 n1144, int i64 n1145, int i64 n1146, int i64 n1147, int i64 n1148]) ∧
 LetW (setRow w995 ⟨b17, 0, none⟩ (0 : Nat) [int i64 n1135, int i64 n1136, int i64 n1137, slice p1138 k1139 k1140, int i64 n1141, int i64 n1142, int i64 n1143, int i64 n1144, int i64 n1145, int i64 n1146, int i64 n1147, int i64 n1148]) fun w1149 =>
 ∃ n1150 : Int,
 ∃ n1151 : Int,
 ∃ n1152 : Int,
 ∃ p1153 : Option Addr,
 ∃ k1154 : Nat,
 ∃ k1155 : Nat,
 ∃ n1156 : Int,
 ∃ n1157 : Int,
 ∃ n1158 : Int,
 ∃ n1159 : Int,
 ∃ n1160 : Int,
 ∃ n1161 : Int,
 ∃ n1162 : Int,
 ∃ n1163 : Int,
 (Row w1149 ⟨b17, 0, none⟩ (0 : Nat) [int i64 n1150, int i64 n1151, int i64 n1152, slice p1153 k1154 k1155, int i64 n1156, int i64 n1157, int i64 n1158, int i64 n1159, int i64 n1160, int i64 n1161, int i64 n1162, int i64 n1163]) ∧
 R (returned (agg #[int i64 n1150, int i64 n1151, int i64 n1152, slice p1153 k1154 k1155, int i64 n1156, int i64 n1157, int i64 n1158, int i64 n1159, int i64 n1160, int i64 n1161, int i64 n1162, int i64 n1163])) w1149))) ∧
 LetA (Obj.cells #[int i64 (0), int i64 (0), int i64 (0), slice none (0 : Nat) (0 : Nat), int i64 (0), int i64 (0), int i64 (0), int i64 (0), int i64 (0), int i64 (0), int i64 (0), int i64 (0)] (24 : Nat)) w43 fun b1164 w1165 =>
 (w1165.cell? ⟨b15, 11, none⟩ = some (int i64 n32)) ∧
 (w1165.cell? ⟨b15, 10, none⟩ = some (int i64 n31)) ∧
 (w1165.cell? ⟨b15, 9, none⟩ = some (int i64 n30)) ∧
 (w1165.cell? ⟨b15, 8, none⟩ = some (int i64 n29)) ∧
 (w1165.cell? ⟨b15, 7, none⟩ = some (int i64 n28)) ∧
 (w1165.cell? ⟨b15, 6, none⟩ = some (int i64 n27)) ∧
 Ca Try.prog (50 : Nat) #[int i64 n27, int i64 (1), int i64 (16)] w1165 fun e1166 w1167 =>
 ∃ n1168 : Int,
 (e1166 = returned (int i64 n1168)) ∧
 (w1167.cell? ⟨b15, 11, none⟩ = some (int i64 n32)) ∧
 (w1167.cell? ⟨b15, 10, none⟩ = some (int i64 n31)) ∧
 (w1167.cell? ⟨b15, 9, none⟩ = some (int i64 n30)) ∧
 (w1167.cell? ⟨b15, 8, none⟩ = some (int i64 n29)) ∧
 (w1167.cell? ⟨b15, 7, none⟩ = some (int i64 n28)) ∧
 Ca Try.prog (50 : Nat) #[int i64 n28, int i64 (4), int i64 (64)] w1167 fun e1169 w1170 =>
 ∃ n1171 : Int,
 (e1169 = returned (int i64 n1171)) ∧
 (w1170.cell? ⟨b15, 11, none⟩ = some (int i64 n32)) ∧
 (w1170.cell? ⟨b15, 10, none⟩ = some (int i64 n31)) ∧
 (w1170.cell? ⟨b15, 9, none⟩ = some (int i64 n30)) ∧
 (w1170.cell? ⟨b15, 8, none⟩ = some (int i64 n29)) ∧
 Ca Try.prog (50 : Nat) #[int i64 n29, int i64 (4), int i64 (64)] w1170 fun e1172 w1173 =>
 ∃ n1174 : Int,
 (e1172 = returned (int i64 n1174)) ∧
 (w1173.cell? ⟨b15, 11, none⟩ = some (int i64 n32)) ∧
 (w1173.cell? ⟨b15, 10, none⟩ = some (int i64 n31)) ∧
 (w1173.cell? ⟨b15, 9, none⟩ = some (int i64 n30)) ∧
 Ca Try.prog (50 : Nat) #[int i64 n30, int i64 (4), int i64 (64)] w1173 fun e1175 w1176 =>
 ∃ n1177 : Int,
 (e1175 = returned (int i64 n1177)) ∧
 (w1176.cell? ⟨b15, 11, none⟩ = some (int i64 n32)) ∧
 (w1176.cell? ⟨b15, 10, none⟩ = some (int i64 n31)) ∧
 Ca Try.prog (50 : Nat) #[int i64 n31, int i64 (0), int i64 (16)] w1176 fun e1178 w1179 =>
 ∃ n1180 : Int,
 (e1178 = returned (int i64 n1180)) ∧
 (w1179.cell? ⟨b15, 11, none⟩ = some (int i64 n32)) ∧
 Ca Try.prog (50 : Nat) #[int i64 n32, int i64 (1), int i64 (1099511627776)] w1179 fun e1181 w1182 =>
 ∃ n1183 : Int,
 (e1181 = returned (int i64 n1183)) ∧
 (WrRow w1182 ⟨b1164, 0, none⟩ (0 : Nat) [int i64 n22, int i64 n35, int i64 n38, slice none (0 : Nat) (0 : Nat), int i64 n41, int i64 n44, int i64 n1168, int i64 n1171, int i64 n1174, int i64 n1177, int i64 n1180, int i64 n1183]) ∧
 LetW (setRow w1182 ⟨b1164, 0, none⟩ (0 : Nat) [int i64 n22, int i64 n35, int i64 n38, slice none (0 : Nat) (0 : Nat), int i64 n41, int i64 n44, int i64 n1168, int i64 n1171, int i64 n1174, int i64 n1177, int i64 n1180, int i64 n1183]) fun w1184 =>
 ∃ I1185 : Nat → List Value → World → Prop,
 (∃ k1186 : Nat,
 I1185 k1186 [int i64 (0)] w1184) ∧
 ∀ n1187 : Int,
 ∀ k1188 : Nat,
 ∀ w1189 : World,
 (I1185 k1188 [int i64 n1187] w1189) →
 ∃ p1190 : Option Addr,
 ∃ k1191 : Nat,
 ∃ k1192 : Nat,
 (w1189.cell? ⟨b15, 3, none⟩ = some (slice p1190 k1191 k1192)) ∧
 Br (decide (n1187 < (↑k1191 : Int)))
 (Br (decide (n1187 < (4 : Int)))
 (∃ p1193 : Option Addr,
 ∃ k1194 : Nat,
 ∃ k1195 : Nat,
 (w1189.cell? ⟨b1164, 3, none⟩ = some (slice p1193 k1194 k1195)) ∧
 ∃ p1196 : Option Addr,
 ∃ k1197 : Nat,
 ∃ k1198 : Nat,
 (w1189.cell? ⟨b15, 3, none⟩ = some (slice p1196 k1197 k1198)) ∧
 NilOk p1196 fun a1199 =>
 ((
 (0 : Int) ≤ n1187) ∧
 n1187 < (↑k1197 : Int)) ∧
 ∃ n1200 : Int,
 (w1189.cell? (a1199.add (n1187.toNat * (1 : Nat))) = some (int i64 n1200)) ∧
 Ca Try.prog (50 : Nat) #[int i64 n1200, int i64 (96), int i64 (65536)] w1189 fun e1201 w1202 =>
 ∃ n1203 : Int,
 (e1201 = returned (int i64 n1203)) ∧
 (w1202.cell? ⟨b1164, 3, none⟩ = some (slice p1193 k1194 k1195)) ∧
 LetA (Obj.cells #[int i64 n1203] (3 : Nat)) w1202 fun b1204 w1205 =>
 (w1205.cell? ⟨b1164, 3, none⟩ = some (slice p1193 k1194 k1195)) ∧
 RunsV Try.prog (Builtin.append_ #[(22 : Nat), (22 : Nat)] (22 : Nat) #[slice p1193 k1194 k1195, slice (some ⟨b1204, 0, none⟩) (1 : Nat) (1 : Nat)]) w1205 fun v1206 w1207 =>
 ∃ p1208 : Option Addr,
 ∃ k1209 : Nat,
 ∃ k1210 : Nat,
 (v1206 = slice p1208 k1209 k1210) ∧
 (Wr w1207 ⟨b1164, 3, none⟩) ∧
 LetW (w1207.setCell ⟨b1164, 3, none⟩ (slice p1208 k1209 k1210)) fun w1211 =>
 LetI (i64.wrap (n1187 + (1 : Int))) fun n1212 =>
 ∃ k1213 : Nat,
 (k1213 < k1188) ∧
 I1185 k1213 [int i64 n1212] w1211)
 (∃ p1214 : Option Addr,
 ∃ k1215 : Nat,
 ∃ k1216 : Nat,
 (w1189.cell? ⟨b1164, 3, none⟩ = some (slice p1214 k1215 k1216)) ∧
 Br ((↑k1215 : Int) == (0 : Int))
 (∃ p1217 : Option Addr,
 ∃ k1218 : Nat,
 ∃ k1219 : Nat,
 (w1189.cell? ⟨b1164, 3, none⟩ = some (slice p1217 k1218 k1219)) ∧
 LetA (Obj.cells #[int i64 (96)] (3 : Nat)) w1189 fun b1220 w1221 =>
 RunsV Try.prog (Builtin.append_ #[(22 : Nat), (22 : Nat)] (22 : Nat) #[slice p1217 k1218 k1219, slice (some ⟨b1220, 0, none⟩) (1 : Nat) (1 : Nat)]) w1221 fun v1222 w1223 =>
 ∃ p1224 : Option Addr,
 ∃ k1225 : Nat,
 ∃ k1226 : Nat,
 (v1222 = slice p1224 k1225 k1226) ∧
 (Wr w1223 ⟨b1164, 3, none⟩) ∧
 LetW (w1223.setCell ⟨b1164, 3, none⟩ (slice p1224 k1225 k1226)) fun w1227 =>
 ∃ n1228 : Int,
 ∃ n1229 : Int,
 ∃ n1230 : Int,
 ∃ p1231 : Option Addr,
 ∃ k1232 : Nat,
 ∃ k1233 : Nat,
 ∃ n1234 : Int,
 ∃ n1235 : Int,
 ∃ n1236 : Int,
 ∃ n1237 : Int,
 ∃ n1238 : Int,
 ∃ n1239 : Int,
 ∃ n1240 : Int,
 ∃ n1241 : Int,
 (Row w1227 ⟨b1164, 0, none⟩ (0 : Nat) [int i64 n1228, int i64 n1229, int i64 n1230, slice p1231 k1232 k1233, int i64 n1234, int i64 n1235, int i64 n1236, int i64 n1237, int i64 n1238, int i64 n1239, int i64 n1240, int i64 n1241]) ∧
 (WrRow w1227 ⟨b17, 0, none⟩ (0 : Nat) [int i64 n1228, int i64 n1229, int i64 n1230, slice p1231 k1232 k1233, int i64 n1234, int i64 n1235, int i64 n1236, int i64 n1237, int i64 n1238, int i64 n1239, int i64 n1240, int i64 n1241]) ∧
 LetW (setRow w1227 ⟨b17, 0, none⟩ (0 : Nat) [int i64 n1228, int i64 n1229, int i64 n1230, slice p1231 k1232 k1233, int i64 n1234, int i64 n1235, int i64 n1236, int i64 n1237, int i64 n1238, int i64 n1239, int i64 n1240, int i64 n1241]) fun w1242 =>
 ∃ n1243 : Int,
 ∃ n1244 : Int,
 ∃ n1245 : Int,
 ∃ p1246 : Option Addr,
 ∃ k1247 : Nat,
 ∃ k1248 : Nat,
 ∃ n1249 : Int,
 ∃ n1250 : Int,
 ∃ n1251 : Int,
 ∃ n1252 : Int,
 ∃ n1253 : Int,
 ∃ n1254 : Int,
 ∃ n1255 : Int,
 ∃ n1256 : Int,
 (Row w1242 ⟨b17, 0, none⟩ (0 : Nat) [int i64 n1243, int i64 n1244, int i64 n1245, slice p1246 k1247 k1248, int i64 n1249, int i64 n1250, int i64 n1251, int i64 n1252, int i64 n1253, int i64 n1254, int i64 n1255, int i64 n1256]) ∧
 R (returned (agg #[int i64 n1243, int i64 n1244, int i64 n1245, slice p1246 k1247 k1248, int i64 n1249, int i64 n1250, int i64 n1251, int i64 n1252, int i64 n1253, int i64 n1254, int i64 n1255, int i64 n1256])) w1242)
 (∃ n1257 : Int,
 ∃ n1258 : Int,
 ∃ n1259 : Int,
 ∃ p1260 : Option Addr,
 ∃ k1261 : Nat,
 ∃ k1262 : Nat,
 ∃ n1263 : Int,
 ∃ n1264 : Int,
 ∃ n1265 : Int,
 ∃ n1266 : Int,
 ∃ n1267 : Int,
 ∃ n1268 : Int,
 ∃ n1269 : Int,
 ∃ n1270 : Int,
 (Row w1189 ⟨b1164, 0, none⟩ (0 : Nat) [int i64 n1257, int i64 n1258, int i64 n1259, slice p1260 k1261 k1262, int i64 n1263, int i64 n1264, int i64 n1265, int i64 n1266, int i64 n1267, int i64 n1268, int i64 n1269, int i64 n1270]) ∧
 (WrRow w1189 ⟨b17, 0, none⟩ (0 : Nat) [int i64 n1257, int i64 n1258, int i64 n1259, slice p1260 k1261 k1262, int i64 n1263, int i64 n1264, int i64 n1265, int i64 n1266, int i64 n1267, int i64 n1268, int i64 n1269, int i64 n1270]) ∧
 LetW (setRow w1189 ⟨b17, 0, none⟩ (0 : Nat) [int i64 n1257, int i64 n1258, int i64 n1259, slice p1260 k1261 k1262, int i64 n1263, int i64 n1264, int i64 n1265, int i64 n1266, int i64 n1267, int i64 n1268, int i64 n1269, int i64 n1270]) fun w1271 =>
 ∃ n1272 : Int,
 ∃ n1273 : Int,
 ∃ n1274 : Int,
 ∃ p1275 : Option Addr,
 ∃ k1276 : Nat,
 ∃ k1277 : Nat,
 ∃ n1278 : Int,
 ∃ n1279 : Int,
 ∃ n1280 : Int,
 ∃ n1281 : Int,
 ∃ n1282 : Int,
 ∃ n1283 : Int,
 ∃ n1284 : Int,
 ∃ n1285 : Int,
 (Row w1271 ⟨b17, 0, none⟩ (0 : Nat) [int i64 n1272, int i64 n1273, int i64 n1274, slice p1275 k1276 k1277, int i64 n1278, int i64 n1279, int i64 n1280, int i64 n1281, int i64 n1282, int i64 n1283, int i64 n1284, int i64 n1285]) ∧
 R (returned (agg #[int i64 n1272, int i64 n1273, int i64 n1274, slice p1275 k1276 k1277, int i64 n1278, int i64 n1279, int i64 n1280, int i64 n1281, int i64 n1282, int i64 n1283, int i64 n1284, int i64 n1285])) w1271)))
 (∃ p1286 : Option Addr,
 ∃ k1287 : Nat,
 ∃ k1288 : Nat,
 (w1189.cell? ⟨b1164, 3, none⟩ = some (slice p1286 k1287 k1288)) ∧
 Br ((↑k1287 : Int) == (0 : Int))
 (∃ p1289 : Option Addr,
 ∃ k1290 : Nat,
 ∃ k1291 : Nat,
 (w1189.cell? ⟨b1164, 3, none⟩ = some (slice p1289 k1290 k1291)) ∧
 LetA (Obj.cells #[int i64 (96)] (3 : Nat)) w1189 fun b1292 w1293 =>
 RunsV Try.prog (Builtin.append_ #[(22 : Nat), (22 : Nat)] (22 : Nat) #[slice p1289 k1290 k1291, slice (some ⟨b1292, 0, none⟩) (1 : Nat) (1 : Nat)]) w1293 fun v1294 w1295 =>
 ∃ p1296 : Option Addr,
 ∃ k1297 : Nat,
 ∃ k1298 : Nat,
 (v1294 = slice p1296 k1297 k1298) ∧
 (Wr w1295 ⟨b1164, 3, none⟩) ∧
 LetW (w1295.setCell ⟨b1164, 3, none⟩ (slice p1296 k1297 k1298)) fun w1299 =>
 ∃ n1300 : Int,
 ∃ n1301 : Int,
 ∃ n1302 : Int,
 ∃ p1303 : Option Addr,
 ∃ k1304 : Nat,
 ∃ k1305 : Nat,
 ∃ n1306 : Int,
 ∃ n1307 : Int,
 ∃ n1308 : Int,
 ∃ n1309 : Int,
 ∃ n1310 : Int,
 ∃ n1311 : Int,
 ∃ n1312 : Int,
 ∃ n1313 : Int,
 (Row w1299 ⟨b1164, 0, none⟩ (0 : Nat) [int i64 n1300, int i64 n1301, int i64 n1302, slice p1303 k1304 k1305, int i64 n1306, int i64 n1307, int i64 n1308, int i64 n1309, int i64 n1310, int i64 n1311, int i64 n1312, int i64 n1313]) ∧
 (WrRow w1299 ⟨b17, 0, none⟩ (0 : Nat) [int i64 n1300, int i64 n1301, int i64 n1302, slice p1303 k1304 k1305, int i64 n1306, int i64 n1307, int i64 n1308, int i64 n1309, int i64 n1310, int i64 n1311, int i64 n1312, int i64 n1313]) ∧
 LetW (setRow w1299 ⟨b17, 0, none⟩ (0 : Nat) [int i64 n1300, int i64 n1301, int i64 n1302, slice p1303 k1304 k1305, int i64 n1306, int i64 n1307, int i64 n1308, int i64 n1309, int i64 n1310, int i64 n1311, int i64 n1312, int i64 n1313]) fun w1314 =>
 ∃ n1315 : Int,
 ∃ n1316 : Int,
 ∃ n1317 : Int,
 ∃ p1318 : Option Addr,
 ∃ k1319 : Nat,
 ∃ k1320 : Nat,
 ∃ n1321 : Int,
 ∃ n1322 : Int,
 ∃ n1323 : Int,
 ∃ n1324 : Int,
 ∃ n1325 : Int,
 ∃ n1326 : Int,
 ∃ n1327 : Int,
 ∃ n1328 : Int,
 (Row w1314 ⟨b17, 0, none⟩ (0 : Nat) [int i64 n1315, int i64 n1316, int i64 n1317, slice p1318 k1319 k1320, int i64 n1321, int i64 n1322, int i64 n1323, int i64 n1324, int i64 n1325, int i64 n1326, int i64 n1327, int i64 n1328]) ∧
 R (returned (agg #[int i64 n1315, int i64 n1316, int i64 n1317, slice p1318 k1319 k1320, int i64 n1321, int i64 n1322, int i64 n1323, int i64 n1324, int i64 n1325, int i64 n1326, int i64 n1327, int i64 n1328])) w1314)
 (∃ n1329 : Int,
 ∃ n1330 : Int,
 ∃ n1331 : Int,
 ∃ p1332 : Option Addr,
 ∃ k1333 : Nat,
 ∃ k1334 : Nat,
 ∃ n1335 : Int,
 ∃ n1336 : Int,
 ∃ n1337 : Int,
 ∃ n1338 : Int,
 ∃ n1339 : Int,
 ∃ n1340 : Int,
 ∃ n1341 : Int,
 ∃ n1342 : Int,
 (Row w1189 ⟨b1164, 0, none⟩ (0 : Nat) [int i64 n1329, int i64 n1330, int i64 n1331, slice p1332 k1333 k1334, int i64 n1335, int i64 n1336, int i64 n1337, int i64 n1338, int i64 n1339, int i64 n1340, int i64 n1341, int i64 n1342]) ∧
 (WrRow w1189 ⟨b17, 0, none⟩ (0 : Nat) [int i64 n1329, int i64 n1330, int i64 n1331, slice p1332 k1333 k1334, int i64 n1335, int i64 n1336, int i64 n1337, int i64 n1338, int i64 n1339, int i64 n1340, int i64 n1341, int i64 n1342]) ∧
 LetW (setRow w1189 ⟨b17, 0, none⟩ (0 : Nat) [int i64 n1329, int i64 n1330, int i64 n1331, slice p1332 k1333 k1334, int i64 n1335, int i64 n1336, int i64 n1337, int i64 n1338, int i64 n1339, int i64 n1340, int i64 n1341, int i64 n1342]) fun w1343 =>
 ∃ n1344 : Int,
 ∃ n1345 : Int,
 ∃ n1346 : Int,
 ∃ p1347 : Option Addr,
 ∃ k1348 : Nat,
 ∃ k1349 : Nat,
 ∃ n1350 : Int,
 ∃ n1351 : Int,
 ∃ n1352 : Int,
 ∃ n1353 : Int,
 ∃ n1354 : Int,
 ∃ n1355 : Int,
 ∃ n1356 : Int,
 ∃ n1357 : Int,
 (Row w1343 ⟨b17, 0, none⟩ (0 : Nat) [int i64 n1344, int i64 n1345, int i64 n1346, slice p1347 k1348 k1349, int i64 n1350, int i64 n1351, int i64 n1352, int i64 n1353, int i64 n1354, int i64 n1355, int i64 n1356, int i64 n1357]) ∧
 R (returned (agg #[int i64 n1344, int i64 n1345, int i64 n1346, slice p1347 k1348 k1349, int i64 n1350, int i64 n1351, int i64 n1352, int i64 n1353, int i64 n1354, int i64 n1355, int i64 n1356, int i64 n1357])) w1343))) ∧
 LetA (Obj.cells #[int i64 (0), int i64 (0), int i64 (0), slice none (0 : Nat) (0 : Nat), int i64 (0), int i64 (0), int i64 (0), int i64 (0), int i64 (0), int i64 (0), int i64 (0), int i64 (0)] (24 : Nat)) w40 fun b1358 w1359 =>
 (w1359.cell? ⟨b15, 11, none⟩ = some (int i64 n32)) ∧
 (w1359.cell? ⟨b15, 10, none⟩ = some (int i64 n31)) ∧
 (w1359.cell? ⟨b15, 9, none⟩ = some (int i64 n30)) ∧
 (w1359.cell? ⟨b15, 8, none⟩ = some (int i64 n29)) ∧
 (w1359.cell? ⟨b15, 7, none⟩ = some (int i64 n28)) ∧
 (w1359.cell? ⟨b15, 6, none⟩ = some (int i64 n27)) ∧
 (w1359.cell? ⟨b15, 5, none⟩ = some (int i64 n26)) ∧
 Ca Try.prog (50 : Nat) #[int i64 n26, int i64 (1), int i64 (16)] w1359 fun e1360 w1361 =>
 ∃ n1362 : Int,
 (e1360 = returned (int i64 n1362)) ∧
 (w1361.cell? ⟨b15, 11, none⟩ = some (int i64 n32)) ∧
 (w1361.cell? ⟨b15, 10, none⟩ = some (int i64 n31)) ∧
 (w1361.cell? ⟨b15, 9, none⟩ = some (int i64 n30)) ∧
 (w1361.cell? ⟨b15, 8, none⟩ = some (int i64 n29)) ∧
 (w1361.cell? ⟨b15, 7, none⟩ = some (int i64 n28)) ∧
 (w1361.cell? ⟨b15, 6, none⟩ = some (int i64 n27)) ∧
 Ca Try.prog (50 : Nat) #[int i64 n27, int i64 (1), int i64 (16)] w1361 fun e1363 w1364 =>
 ∃ n1365 : Int,
 (e1363 = returned (int i64 n1365)) ∧
 (w1364.cell? ⟨b15, 11, none⟩ = some (int i64 n32)) ∧
 (w1364.cell? ⟨b15, 10, none⟩ = some (int i64 n31)) ∧
 (w1364.cell? ⟨b15, 9, none⟩ = some (int i64 n30)) ∧
 (w1364.cell? ⟨b15, 8, none⟩ = some (int i64 n29)) ∧
 (w1364.cell? ⟨b15, 7, none⟩ = some (int i64 n28)) ∧
 Ca Try.prog (50 : Nat) #[int i64 n28, int i64 (4), int i64 (64)] w1364 fun e1366 w1367 =>
 ∃ n1368 : Int,
 (e1366 = returned (int i64 n1368)) ∧
 (w1367.cell? ⟨b15, 11, none⟩ = some (int i64 n32)) ∧
 (w1367.cell? ⟨b15, 10, none⟩ = some (int i64 n31)) ∧
 (w1367.cell? ⟨b15, 9, none⟩ = some (int i64 n30)) ∧
 (w1367.cell? ⟨b15, 8, none⟩ = some (int i64 n29)) ∧
 Ca Try.prog (50 : Nat) #[int i64 n29, int i64 (4), int i64 (64)] w1367 fun e1369 w1370 =>
 ∃ n1371 : Int,
 (e1369 = returned (int i64 n1371)) ∧
 (w1370.cell? ⟨b15, 11, none⟩ = some (int i64 n32)) ∧
 (w1370.cell? ⟨b15, 10, none⟩ = some (int i64 n31)) ∧
 (w1370.cell? ⟨b15, 9, none⟩ = some (int i64 n30)) ∧
 Ca Try.prog (50 : Nat) #[int i64 n30, int i64 (4), int i64 (64)] w1370 fun e1372 w1373 =>
 ∃ n1374 : Int,
 (e1372 = returned (int i64 n1374)) ∧
 (w1373.cell? ⟨b15, 11, none⟩ = some (int i64 n32)) ∧
 (w1373.cell? ⟨b15, 10, none⟩ = some (int i64 n31)) ∧
 Ca Try.prog (50 : Nat) #[int i64 n31, int i64 (0), int i64 (16)] w1373 fun e1375 w1376 =>
 ∃ n1377 : Int,
 (e1375 = returned (int i64 n1377)) ∧
 (w1376.cell? ⟨b15, 11, none⟩ = some (int i64 n32)) ∧
 Ca Try.prog (50 : Nat) #[int i64 n32, int i64 (1), int i64 (1099511627776)] w1376 fun e1378 w1379 =>
 ∃ n1380 : Int,
 (e1378 = returned (int i64 n1380)) ∧
 (WrRow w1379 ⟨b1358, 0, none⟩ (0 : Nat) [int i64 n22, int i64 n35, int i64 n38, slice none (0 : Nat) (0 : Nat), int i64 n41, int i64 n1362, int i64 n1365, int i64 n1368, int i64 n1371, int i64 n1374, int i64 n1377, int i64 n1380]) ∧
 LetW (setRow w1379 ⟨b1358, 0, none⟩ (0 : Nat) [int i64 n22, int i64 n35, int i64 n38, slice none (0 : Nat) (0 : Nat), int i64 n41, int i64 n1362, int i64 n1365, int i64 n1368, int i64 n1371, int i64 n1374, int i64 n1377, int i64 n1380]) fun w1381 =>
 ∃ I1382 : Nat → List Value → World → Prop,
 (∃ k1383 : Nat,
 I1382 k1383 [int i64 (0)] w1381) ∧
 ∀ n1384 : Int,
 ∀ k1385 : Nat,
 ∀ w1386 : World,
 (I1382 k1385 [int i64 n1384] w1386) →
 ∃ p1387 : Option Addr,
 ∃ k1388 : Nat,
 ∃ k1389 : Nat,
 (w1386.cell? ⟨b15, 3, none⟩ = some (slice p1387 k1388 k1389)) ∧
 Br (decide (n1384 < (↑k1388 : Int)))
 (Br (decide (n1384 < (4 : Int)))
 (∃ p1390 : Option Addr,
 ∃ k1391 : Nat,
 ∃ k1392 : Nat,
 (w1386.cell? ⟨b1358, 3, none⟩ = some (slice p1390 k1391 k1392)) ∧
 ∃ p1393 : Option Addr,
 ∃ k1394 : Nat,
 ∃ k1395 : Nat,
 (w1386.cell? ⟨b15, 3, none⟩ = some (slice p1393 k1394 k1395)) ∧
 NilOk p1393 fun a1396 =>
 ((
 (0 : Int) ≤ n1384) ∧
 n1384 < (↑k1394 : Int)) ∧
 ∃ n1397 : Int,
 (w1386.cell? (a1396.add (n1384.toNat * (1 : Nat))) = some (int i64 n1397)) ∧
 Ca Try.prog (50 : Nat) #[int i64 n1397, int i64 (96), int i64 (65536)] w1386 fun e1398 w1399 =>
 ∃ n1400 : Int,
 (e1398 = returned (int i64 n1400)) ∧
 (w1399.cell? ⟨b1358, 3, none⟩ = some (slice p1390 k1391 k1392)) ∧
 LetA (Obj.cells #[int i64 n1400] (3 : Nat)) w1399 fun b1401 w1402 =>
 (w1402.cell? ⟨b1358, 3, none⟩ = some (slice p1390 k1391 k1392)) ∧
 RunsV Try.prog (Builtin.append_ #[(22 : Nat), (22 : Nat)] (22 : Nat) #[slice p1390 k1391 k1392, slice (some ⟨b1401, 0, none⟩) (1 : Nat) (1 : Nat)]) w1402 fun v1403 w1404 =>
 ∃ p1405 : Option Addr,
 ∃ k1406 : Nat,
 ∃ k1407 : Nat,
 (v1403 = slice p1405 k1406 k1407) ∧
 (Wr w1404 ⟨b1358, 3, none⟩) ∧
 LetW (w1404.setCell ⟨b1358, 3, none⟩ (slice p1405 k1406 k1407)) fun w1408 =>
 LetI (i64.wrap (n1384 + (1 : Int))) fun n1409 =>
 ∃ k1410 : Nat,
 (k1410 < k1385) ∧
 I1382 k1410 [int i64 n1409] w1408)
 (∃ p1411 : Option Addr,
 ∃ k1412 : Nat,
 ∃ k1413 : Nat,
 (w1386.cell? ⟨b1358, 3, none⟩ = some (slice p1411 k1412 k1413)) ∧
 Br ((↑k1412 : Int) == (0 : Int))
 (∃ p1414 : Option Addr,
 ∃ k1415 : Nat,
 ∃ k1416 : Nat,
 (w1386.cell? ⟨b1358, 3, none⟩ = some (slice p1414 k1415 k1416)) ∧
 LetA (Obj.cells #[int i64 (96)] (3 : Nat)) w1386 fun b1417 w1418 =>
 RunsV Try.prog (Builtin.append_ #[(22 : Nat), (22 : Nat)] (22 : Nat) #[slice p1414 k1415 k1416, slice (some ⟨b1417, 0, none⟩) (1 : Nat) (1 : Nat)]) w1418 fun v1419 w1420 =>
 ∃ p1421 : Option Addr,
 ∃ k1422 : Nat,
 ∃ k1423 : Nat,
 (v1419 = slice p1421 k1422 k1423) ∧
 (Wr w1420 ⟨b1358, 3, none⟩) ∧
 LetW (w1420.setCell ⟨b1358, 3, none⟩ (slice p1421 k1422 k1423)) fun w1424 =>
 ∃ n1425 : Int,
 ∃ n1426 : Int,
 ∃ n1427 : Int,
 ∃ p1428 : Option Addr,
 ∃ k1429 : Nat,
 ∃ k1430 : Nat,
 ∃ n1431 : Int,
 ∃ n1432 : Int,
 ∃ n1433 : Int,
 ∃ n1434 : Int,
 ∃ n1435 : Int,
 ∃ n1436 : Int,
 ∃ n1437 : Int,
 ∃ n1438 : Int,
 (Row w1424 ⟨b1358, 0, none⟩ (0 : Nat) [int i64 n1425, int i64 n1426, int i64 n1427, slice p1428 k1429 k1430, int i64 n1431, int i64 n1432, int i64 n1433, int i64 n1434, int i64 n1435, int i64 n1436, int i64 n1437, int i64 n1438]) ∧
 (WrRow w1424 ⟨b17, 0, none⟩ (0 : Nat) [int i64 n1425, int i64 n1426, int i64 n1427, slice p1428 k1429 k1430, int i64 n1431, int i64 n1432, int i64 n1433, int i64 n1434, int i64 n1435, int i64 n1436, int i64 n1437, int i64 n1438]) ∧
 LetW (setRow w1424 ⟨b17, 0, none⟩ (0 : Nat) [int i64 n1425, int i64 n1426, int i64 n1427, slice p1428 k1429 k1430, int i64 n1431, int i64 n1432, int i64 n1433, int i64 n1434, int i64 n1435, int i64 n1436, int i64 n1437, int i64 n1438]) fun w1439 =>
 ∃ n1440 : Int,
 ∃ n1441 : Int,
 ∃ n1442 : Int,
 ∃ p1443 : Option Addr,
 ∃ k1444 : Nat,
 ∃ k1445 : Nat,
 ∃ n1446 : Int,
 ∃ n1447 : Int,
 ∃ n1448 : Int,
 ∃ n1449 : Int,
 ∃ n1450 : Int,
 ∃ n1451 : Int,
 ∃ n1452 : Int,
 ∃ n1453 : Int,
 (Row w1439 ⟨b17, 0, none⟩ (0 : Nat) [int i64 n1440, int i64 n1441, int i64 n1442, slice p1443 k1444 k1445, int i64 n1446, int i64 n1447, int i64 n1448, int i64 n1449, int i64 n1450, int i64 n1451, int i64 n1452, int i64 n1453]) ∧
 R (returned (agg #[int i64 n1440, int i64 n1441, int i64 n1442, slice p1443 k1444 k1445, int i64 n1446, int i64 n1447, int i64 n1448, int i64 n1449, int i64 n1450, int i64 n1451, int i64 n1452, int i64 n1453])) w1439)
 (∃ n1454 : Int,
 ∃ n1455 : Int,
 ∃ n1456 : Int,
 ∃ p1457 : Option Addr,
 ∃ k1458 : Nat,
 ∃ k1459 : Nat,
 ∃ n1460 : Int,
 ∃ n1461 : Int,
 ∃ n1462 : Int,
 ∃ n1463 : Int,
 ∃ n1464 : Int,
 ∃ n1465 : Int,
 ∃ n1466 : Int,
 ∃ n1467 : Int,
 (Row w1386 ⟨b1358, 0, none⟩ (0 : Nat) [int i64 n1454, int i64 n1455, int i64 n1456, slice p1457 k1458 k1459, int i64 n1460, int i64 n1461, int i64 n1462, int i64 n1463, int i64 n1464, int i64 n1465, int i64 n1466, int i64 n1467]) ∧
 (WrRow w1386 ⟨b17, 0, none⟩ (0 : Nat) [int i64 n1454, int i64 n1455, int i64 n1456, slice p1457 k1458 k1459, int i64 n1460, int i64 n1461, int i64 n1462, int i64 n1463, int i64 n1464, int i64 n1465, int i64 n1466, int i64 n1467]) ∧
 LetW (setRow w1386 ⟨b17, 0, none⟩ (0 : Nat) [int i64 n1454, int i64 n1455, int i64 n1456, slice p1457 k1458 k1459, int i64 n1460, int i64 n1461, int i64 n1462, int i64 n1463, int i64 n1464, int i64 n1465, int i64 n1466, int i64 n1467]) fun w1468 =>
 ∃ n1469 : Int,
 ∃ n1470 : Int,
 ∃ n1471 : Int,
 ∃ p1472 : Option Addr,
 ∃ k1473 : Nat,
 ∃ k1474 : Nat,
 ∃ n1475 : Int,
 ∃ n1476 : Int,
 ∃ n1477 : Int,
 ∃ n1478 : Int,
 ∃ n1479 : Int,
 ∃ n1480 : Int,
 ∃ n1481 : Int,
 ∃ n1482 : Int,
 (Row w1468 ⟨b17, 0, none⟩ (0 : Nat) [int i64 n1469, int i64 n1470, int i64 n1471, slice p1472 k1473 k1474, int i64 n1475, int i64 n1476, int i64 n1477, int i64 n1478, int i64 n1479, int i64 n1480, int i64 n1481, int i64 n1482]) ∧
 R (returned (agg #[int i64 n1469, int i64 n1470, int i64 n1471, slice p1472 k1473 k1474, int i64 n1475, int i64 n1476, int i64 n1477, int i64 n1478, int i64 n1479, int i64 n1480, int i64 n1481, int i64 n1482])) w1468)))
 (∃ p1483 : Option Addr,
 ∃ k1484 : Nat,
 ∃ k1485 : Nat,
 (w1386.cell? ⟨b1358, 3, none⟩ = some (slice p1483 k1484 k1485)) ∧
 Br ((↑k1484 : Int) == (0 : Int))
 (∃ p1486 : Option Addr,
 ∃ k1487 : Nat,
 ∃ k1488 : Nat,
 (w1386.cell? ⟨b1358, 3, none⟩ = some (slice p1486 k1487 k1488)) ∧
 LetA (Obj.cells #[int i64 (96)] (3 : Nat)) w1386 fun b1489 w1490 =>
 RunsV Try.prog (Builtin.append_ #[(22 : Nat), (22 : Nat)] (22 : Nat) #[slice p1486 k1487 k1488, slice (some ⟨b1489, 0, none⟩) (1 : Nat) (1 : Nat)]) w1490 fun v1491 w1492 =>
 ∃ p1493 : Option Addr,
 ∃ k1494 : Nat,
 ∃ k1495 : Nat,
 (v1491 = slice p1493 k1494 k1495) ∧
 (Wr w1492 ⟨b1358, 3, none⟩) ∧
 LetW (w1492.setCell ⟨b1358, 3, none⟩ (slice p1493 k1494 k1495)) fun w1496 =>
 ∃ n1497 : Int,
 ∃ n1498 : Int,
 ∃ n1499 : Int,
 ∃ p1500 : Option Addr,
 ∃ k1501 : Nat,
 ∃ k1502 : Nat,
 ∃ n1503 : Int,
 ∃ n1504 : Int,
 ∃ n1505 : Int,
 ∃ n1506 : Int,
 ∃ n1507 : Int,
 ∃ n1508 : Int,
 ∃ n1509 : Int,
 ∃ n1510 : Int,
 (Row w1496 ⟨b1358, 0, none⟩ (0 : Nat) [int i64 n1497, int i64 n1498, int i64 n1499, slice p1500 k1501 k1502, int i64 n1503, int i64 n1504, int i64 n1505, int i64 n1506, int i64 n1507, int i64 n1508, int i64 n1509, int i64 n1510]) ∧
 (WrRow w1496 ⟨b17, 0, none⟩ (0 : Nat) [int i64 n1497, int i64 n1498, int i64 n1499, slice p1500 k1501 k1502, int i64 n1503, int i64 n1504, int i64 n1505, int i64 n1506, int i64 n1507, int i64 n1508, int i64 n1509, int i64 n1510]) ∧
 LetW (setRow w1496 ⟨b17, 0, none⟩ (0 : Nat) [int i64 n1497, int i64 n1498, int i64 n1499, slice p1500 k1501 k1502, int i64 n1503, int i64 n1504, int i64 n1505, int i64 n1506, int i64 n1507, int i64 n1508, int i64 n1509, int i64 n1510]) fun w1511 =>
 ∃ n1512 : Int,
 ∃ n1513 : Int,
 ∃ n1514 : Int,
 ∃ p1515 : Option Addr,
 ∃ k1516 : Nat,
 ∃ k1517 : Nat,
 ∃ n1518 : Int,
 ∃ n1519 : Int,
 ∃ n1520 : Int,
 ∃ n1521 : Int,
 ∃ n1522 : Int,
 ∃ n1523 : Int,
 ∃ n1524 : Int,
 ∃ n1525 : Int,
 (Row w1511 ⟨b17, 0, none⟩ (0 : Nat) [int i64 n1512, int i64 n1513, int i64 n1514, slice p1515 k1516 k1517, int i64 n1518, int i64 n1519, int i64 n1520, int i64 n1521, int i64 n1522, int i64 n1523, int i64 n1524, int i64 n1525]) ∧
 R (returned (agg #[int i64 n1512, int i64 n1513, int i64 n1514, slice p1515 k1516 k1517, int i64 n1518, int i64 n1519, int i64 n1520, int i64 n1521, int i64 n1522, int i64 n1523, int i64 n1524, int i64 n1525])) w1511)
 (∃ n1526 : Int,
 ∃ n1527 : Int,
 ∃ n1528 : Int,
 ∃ p1529 : Option Addr,
 ∃ k1530 : Nat,
 ∃ k1531 : Nat,
 ∃ n1532 : Int,
 ∃ n1533 : Int,
 ∃ n1534 : Int,
 ∃ n1535 : Int,
 ∃ n1536 : Int,
 ∃ n1537 : Int,
 ∃ n1538 : Int,
 ∃ n1539 : Int,
 (Row w1386 ⟨b1358, 0, none⟩ (0 : Nat) [int i64 n1526, int i64 n1527, int i64 n1528, slice p1529 k1530 k1531, int i64 n1532, int i64 n1533, int i64 n1534, int i64 n1535, int i64 n1536, int i64 n1537, int i64 n1538, int i64 n1539]) ∧
 (WrRow w1386 ⟨b17, 0, none⟩ (0 : Nat) [int i64 n1526, int i64 n1527, int i64 n1528, slice p1529 k1530 k1531, int i64 n1532, int i64 n1533, int i64 n1534, int i64 n1535, int i64 n1536, int i64 n1537, int i64 n1538, int i64 n1539]) ∧
 LetW (setRow w1386 ⟨b17, 0, none⟩ (0 : Nat) [int i64 n1526, int i64 n1527, int i64 n1528, slice p1529 k1530 k1531, int i64 n1532, int i64 n1533, int i64 n1534, int i64 n1535, int i64 n1536, int i64 n1537, int i64 n1538, int i64 n1539]) fun w1540 =>
 ∃ n1541 : Int,
 ∃ n1542 : Int,
 ∃ n1543 : Int,
 ∃ p1544 : Option Addr,
 ∃ k1545 : Nat,
 ∃ k1546 : Nat,
 ∃ n1547 : Int,
 ∃ n1548 : Int,
 ∃ n1549 : Int,
 ∃ n1550 : Int,
 ∃ n1551 : Int,
 ∃ n1552 : Int,
 ∃ n1553 : Int,
 ∃ n1554 : Int,
 (Row w1540 ⟨b17, 0, none⟩ (0 : Nat) [int i64 n1541, int i64 n1542, int i64 n1543, slice p1544 k1545 k1546, int i64 n1547, int i64 n1548, int i64 n1549, int i64 n1550, int i64 n1551, int i64 n1552, int i64 n1553, int i64 n1554]) ∧
 R (returned (agg #[int i64 n1541, int i64 n1542, int i64 n1543, slice p1544 k1545 k1546, int i64 n1547, int i64 n1548, int i64 n1549, int i64 n1550, int i64 n1551, int i64 n1552, int i64 n1553, int i64 n1554])) w1540))) ∧
 LetA (Obj.cells #[int i64 (0), int i64 (0), int i64 (0), slice none (0 : Nat) (0 : Nat), int i64 (0), int i64 (0), int i64 (0), int i64 (0), int i64 (0), int i64 (0), int i64 (0), int i64 (0)] (24 : Nat)) w37 fun b1555 w1556 =>
 (w1556.cell? ⟨b15, 11, none⟩ = some (int i64 n32)) ∧
 (w1556.cell? ⟨b15, 10, none⟩ = some (int i64 n31)) ∧
 (w1556.cell? ⟨b15, 9, none⟩ = some (int i64 n30)) ∧
 (w1556.cell? ⟨b15, 8, none⟩ = some (int i64 n29)) ∧
 (w1556.cell? ⟨b15, 7, none⟩ = some (int i64 n28)) ∧
 (w1556.cell? ⟨b15, 6, none⟩ = some (int i64 n27)) ∧
 (w1556.cell? ⟨b15, 5, none⟩ = some (int i64 n26)) ∧
 (w1556.cell? ⟨b15, 4, none⟩ = some (int i64 n25)) ∧
 Ca Try.prog (50 : Nat) #[int i64 n25, int i64 (1), int i64 (16)] w1556 fun e1557 w1558 =>
 ∃ n1559 : Int,
 (e1557 = returned (int i64 n1559)) ∧
 (w1558.cell? ⟨b15, 11, none⟩ = some (int i64 n32)) ∧
 (w1558.cell? ⟨b15, 10, none⟩ = some (int i64 n31)) ∧
 (w1558.cell? ⟨b15, 9, none⟩ = some (int i64 n30)) ∧
 (w1558.cell? ⟨b15, 8, none⟩ = some (int i64 n29)) ∧
 (w1558.cell? ⟨b15, 7, none⟩ = some (int i64 n28)) ∧
 (w1558.cell? ⟨b15, 6, none⟩ = some (int i64 n27)) ∧
 (w1558.cell? ⟨b15, 5, none⟩ = some (int i64 n26)) ∧
 Ca Try.prog (50 : Nat) #[int i64 n26, int i64 (1), int i64 (16)] w1558 fun e1560 w1561 =>
 ∃ n1562 : Int,
 (e1560 = returned (int i64 n1562)) ∧
 (w1561.cell? ⟨b15, 11, none⟩ = some (int i64 n32)) ∧
 (w1561.cell? ⟨b15, 10, none⟩ = some (int i64 n31)) ∧
 (w1561.cell? ⟨b15, 9, none⟩ = some (int i64 n30)) ∧
 (w1561.cell? ⟨b15, 8, none⟩ = some (int i64 n29)) ∧
 (w1561.cell? ⟨b15, 7, none⟩ = some (int i64 n28)) ∧
 (w1561.cell? ⟨b15, 6, none⟩ = some (int i64 n27)) ∧
 Ca Try.prog (50 : Nat) #[int i64 n27, int i64 (1), int i64 (16)] w1561 fun e1563 w1564 =>
 ∃ n1565 : Int,
 (e1563 = returned (int i64 n1565)) ∧
 (w1564.cell? ⟨b15, 11, none⟩ = some (int i64 n32)) ∧
 (w1564.cell? ⟨b15, 10, none⟩ = some (int i64 n31)) ∧
 (w1564.cell? ⟨b15, 9, none⟩ = some (int i64 n30)) ∧
 (w1564.cell? ⟨b15, 8, none⟩ = some (int i64 n29)) ∧
 (w1564.cell? ⟨b15, 7, none⟩ = some (int i64 n28)) ∧
 Ca Try.prog (50 : Nat) #[int i64 n28, int i64 (4), int i64 (64)] w1564 fun e1566 w1567 =>
 ∃ n1568 : Int,
 (e1566 = returned (int i64 n1568)) ∧
 (w1567.cell? ⟨b15, 11, none⟩ = some (int i64 n32)) ∧
 (w1567.cell? ⟨b15, 10, none⟩ = some (int i64 n31)) ∧
 (w1567.cell? ⟨b15, 9, none⟩ = some (int i64 n30)) ∧
 (w1567.cell? ⟨b15, 8, none⟩ = some (int i64 n29)) ∧
 Ca Try.prog (50 : Nat) #[int i64 n29, int i64 (4), int i64 (64)] w1567 fun e1569 w1570 =>
 ∃ n1571 : Int,
 (e1569 = returned (int i64 n1571)) ∧
 (w1570.cell? ⟨b15, 11, none⟩ = some (int i64 n32)) ∧
 (w1570.cell? ⟨b15, 10, none⟩ = some (int i64 n31)) ∧
 (w1570.cell? ⟨b15, 9, none⟩ = some (int i64 n30)) ∧
 Ca Try.prog (50 : Nat) #[int i64 n30, int i64 (4), int i64 (64)] w1570 fun e1572 w1573 =>
 ∃ n1574 : Int,
 (e1572 = returned (int i64 n1574)) ∧
 (w1573.cell? ⟨b15, 11, none⟩ = some (int i64 n32)) ∧
 (w1573.cell? ⟨b15, 10, none⟩ = some (int i64 n31)) ∧
 Ca Try.prog (50 : Nat) #[int i64 n31, int i64 (0), int i64 (16)] w1573 fun e1575 w1576 =>
 ∃ n1577 : Int,
 (e1575 = returned (int i64 n1577)) ∧
 (w1576.cell? ⟨b15, 11, none⟩ = some (int i64 n32)) ∧
 Ca Try.prog (50 : Nat) #[int i64 n32, int i64 (1), int i64 (1099511627776)] w1576 fun e1578 w1579 =>
 ∃ n1580 : Int,
 (e1578 = returned (int i64 n1580)) ∧
 (WrRow w1579 ⟨b1555, 0, none⟩ (0 : Nat) [int i64 n22, int i64 n35, int i64 n38, slice none (0 : Nat) (0 : Nat), int i64 n1559, int i64 n1562, int i64 n1565, int i64 n1568, int i64 n1571, int i64 n1574, int i64 n1577, int i64 n1580]) ∧
 LetW (setRow w1579 ⟨b1555, 0, none⟩ (0 : Nat) [int i64 n22, int i64 n35, int i64 n38, slice none (0 : Nat) (0 : Nat), int i64 n1559, int i64 n1562, int i64 n1565, int i64 n1568, int i64 n1571, int i64 n1574, int i64 n1577, int i64 n1580]) fun w1581 =>
 ∃ I1582 : Nat → List Value → World → Prop,
 (∃ k1583 : Nat,
 I1582 k1583 [int i64 (0)] w1581) ∧
 ∀ n1584 : Int,
 ∀ k1585 : Nat,
 ∀ w1586 : World,
 (I1582 k1585 [int i64 n1584] w1586) →
 ∃ p1587 : Option Addr,
 ∃ k1588 : Nat,
 ∃ k1589 : Nat,
 (w1586.cell? ⟨b15, 3, none⟩ = some (slice p1587 k1588 k1589)) ∧
 Br (decide (n1584 < (↑k1588 : Int)))
 (Br (decide (n1584 < (4 : Int)))
 (∃ p1590 : Option Addr,
 ∃ k1591 : Nat,
 ∃ k1592 : Nat,
 (w1586.cell? ⟨b1555, 3, none⟩ = some (slice p1590 k1591 k1592)) ∧
 ∃ p1593 : Option Addr,
 ∃ k1594 : Nat,
 ∃ k1595 : Nat,
 (w1586.cell? ⟨b15, 3, none⟩ = some (slice p1593 k1594 k1595)) ∧
 NilOk p1593 fun a1596 =>
 ((
 (0 : Int) ≤ n1584) ∧
 n1584 < (↑k1594 : Int)) ∧
 ∃ n1597 : Int,
 (w1586.cell? (a1596.add (n1584.toNat * (1 : Nat))) = some (int i64 n1597)) ∧
 Ca Try.prog (50 : Nat) #[int i64 n1597, int i64 (96), int i64 (65536)] w1586 fun e1598 w1599 =>
 ∃ n1600 : Int,
 (e1598 = returned (int i64 n1600)) ∧
 (w1599.cell? ⟨b1555, 3, none⟩ = some (slice p1590 k1591 k1592)) ∧
 LetA (Obj.cells #[int i64 n1600] (3 : Nat)) w1599 fun b1601 w1602 =>
 (w1602.cell? ⟨b1555, 3, none⟩ = some (slice p1590 k1591 k1592)) ∧
 RunsV Try.prog (Builtin.append_ #[(22 : Nat), (22 : Nat)] (22 : Nat) #[slice p1590 k1591 k1592, slice (some ⟨b1601, 0, none⟩) (1 : Nat) (1 : Nat)]) w1602 fun v1603 w1604 =>
 ∃ p1605 : Option Addr,
 ∃ k1606 : Nat,
 ∃ k1607 : Nat,
 (v1603 = slice p1605 k1606 k1607) ∧
 (Wr w1604 ⟨b1555, 3, none⟩) ∧
 LetW (w1604.setCell ⟨b1555, 3, none⟩ (slice p1605 k1606 k1607)) fun w1608 =>
 LetI (i64.wrap (n1584 + (1 : Int))) fun n1609 =>
 ∃ k1610 : Nat,
 (k1610 < k1585) ∧
 I1582 k1610 [int i64 n1609] w1608)
 (∃ p1611 : Option Addr,
 ∃ k1612 : Nat,
 ∃ k1613 : Nat,
 (w1586.cell? ⟨b1555, 3, none⟩ = some (slice p1611 k1612 k1613)) ∧
 Br ((↑k1612 : Int) == (0 : Int))
 (∃ p1614 : Option Addr,
 ∃ k1615 : Nat,
 ∃ k1616 : Nat,
 (w1586.cell? ⟨b1555, 3, none⟩ = some (slice p1614 k1615 k1616)) ∧
 LetA (Obj.cells #[int i64 (96)] (3 : Nat)) w1586 fun b1617 w1618 =>
 RunsV Try.prog (Builtin.append_ #[(22 : Nat), (22 : Nat)] (22 : Nat) #[slice p1614 k1615 k1616, slice (some ⟨b1617, 0, none⟩) (1 : Nat) (1 : Nat)]) w1618 fun v1619 w1620 =>
 ∃ p1621 : Option Addr,
 ∃ k1622 : Nat,
 ∃ k1623 : Nat,
 (v1619 = slice p1621 k1622 k1623) ∧
 (Wr w1620 ⟨b1555, 3, none⟩) ∧
 LetW (w1620.setCell ⟨b1555, 3, none⟩ (slice p1621 k1622 k1623)) fun w1624 =>
 ∃ n1625 : Int,
 ∃ n1626 : Int,
 ∃ n1627 : Int,
 ∃ p1628 : Option Addr,
 ∃ k1629 : Nat,
 ∃ k1630 : Nat,
 ∃ n1631 : Int,
 ∃ n1632 : Int,
 ∃ n1633 : Int,
 ∃ n1634 : Int,
 ∃ n1635 : Int,
 ∃ n1636 : Int,
 ∃ n1637 : Int,
 ∃ n1638 : Int,
 (Row w1624 ⟨b1555, 0, none⟩ (0 : Nat) [int i64 n1625, int i64 n1626, int i64 n1627, slice p1628 k1629 k1630, int i64 n1631, int i64 n1632, int i64 n1633, int i64 n1634, int i64 n1635, int i64 n1636, int i64 n1637, int i64 n1638]) ∧
 (WrRow w1624 ⟨b17, 0, none⟩ (0 : Nat) [int i64 n1625, int i64 n1626, int i64 n1627, slice p1628 k1629 k1630, int i64 n1631, int i64 n1632, int i64 n1633, int i64 n1634, int i64 n1635, int i64 n1636, int i64 n1637, int i64 n1638]) ∧
 LetW (setRow w1624 ⟨b17, 0, none⟩ (0 : Nat) [int i64 n1625, int i64 n1626, int i64 n1627, slice p1628 k1629 k1630, int i64 n1631, int i64 n1632, int i64 n1633, int i64 n1634, int i64 n1635, int i64 n1636, int i64 n1637, int i64 n1638]) fun w1639 =>
 ∃ n1640 : Int,
 ∃ n1641 : Int,
 ∃ n1642 : Int,
 ∃ p1643 : Option Addr,
 ∃ k1644 : Nat,
 ∃ k1645 : Nat,
 ∃ n1646 : Int,
 ∃ n1647 : Int,
 ∃ n1648 : Int,
 ∃ n1649 : Int,
 ∃ n1650 : Int,
 ∃ n1651 : Int,
 ∃ n1652 : Int,
 ∃ n1653 : Int,
 (Row w1639 ⟨b17, 0, none⟩ (0 : Nat) [int i64 n1640, int i64 n1641, int i64 n1642, slice p1643 k1644 k1645, int i64 n1646, int i64 n1647, int i64 n1648, int i64 n1649, int i64 n1650, int i64 n1651, int i64 n1652, int i64 n1653]) ∧
 R (returned (agg #[int i64 n1640, int i64 n1641, int i64 n1642, slice p1643 k1644 k1645, int i64 n1646, int i64 n1647, int i64 n1648, int i64 n1649, int i64 n1650, int i64 n1651, int i64 n1652, int i64 n1653])) w1639)
 (∃ n1654 : Int,
 ∃ n1655 : Int,
 ∃ n1656 : Int,
 ∃ p1657 : Option Addr,
 ∃ k1658 : Nat,
 ∃ k1659 : Nat,
 ∃ n1660 : Int,
 ∃ n1661 : Int,
 ∃ n1662 : Int,
 ∃ n1663 : Int,
 ∃ n1664 : Int,
 ∃ n1665 : Int,
 ∃ n1666 : Int,
 ∃ n1667 : Int,
 (Row w1586 ⟨b1555, 0, none⟩ (0 : Nat) [int i64 n1654, int i64 n1655, int i64 n1656, slice p1657 k1658 k1659, int i64 n1660, int i64 n1661, int i64 n1662, int i64 n1663, int i64 n1664, int i64 n1665, int i64 n1666, int i64 n1667]) ∧
 (WrRow w1586 ⟨b17, 0, none⟩ (0 : Nat) [int i64 n1654, int i64 n1655, int i64 n1656, slice p1657 k1658 k1659, int i64 n1660, int i64 n1661, int i64 n1662, int i64 n1663, int i64 n1664, int i64 n1665, int i64 n1666, int i64 n1667]) ∧
 LetW (setRow w1586 ⟨b17, 0, none⟩ (0 : Nat) [int i64 n1654, int i64 n1655, int i64 n1656, slice p1657 k1658 k1659, int i64 n1660, int i64 n1661, int i64 n1662, int i64 n1663, int i64 n1664, int i64 n1665, int i64 n1666, int i64 n1667]) fun w1668 =>
 ∃ n1669 : Int,
 ∃ n1670 : Int,
 ∃ n1671 : Int,
 ∃ p1672 : Option Addr,
 ∃ k1673 : Nat,
 ∃ k1674 : Nat,
 ∃ n1675 : Int,
 ∃ n1676 : Int,
 ∃ n1677 : Int,
 ∃ n1678 : Int,
 ∃ n1679 : Int,
 ∃ n1680 : Int,
 ∃ n1681 : Int,
 ∃ n1682 : Int,
 (Row w1668 ⟨b17, 0, none⟩ (0 : Nat) [int i64 n1669, int i64 n1670, int i64 n1671, slice p1672 k1673 k1674, int i64 n1675, int i64 n1676, int i64 n1677, int i64 n1678, int i64 n1679, int i64 n1680, int i64 n1681, int i64 n1682]) ∧
 R (returned (agg #[int i64 n1669, int i64 n1670, int i64 n1671, slice p1672 k1673 k1674, int i64 n1675, int i64 n1676, int i64 n1677, int i64 n1678, int i64 n1679, int i64 n1680, int i64 n1681, int i64 n1682])) w1668)))
 (∃ p1683 : Option Addr,
 ∃ k1684 : Nat,
 ∃ k1685 : Nat,
 (w1586.cell? ⟨b1555, 3, none⟩ = some (slice p1683 k1684 k1685)) ∧
 Br ((↑k1684 : Int) == (0 : Int))
 (∃ p1686 : Option Addr,
 ∃ k1687 : Nat,
 ∃ k1688 : Nat,
 (w1586.cell? ⟨b1555, 3, none⟩ = some (slice p1686 k1687 k1688)) ∧
 LetA (Obj.cells #[int i64 (96)] (3 : Nat)) w1586 fun b1689 w1690 =>
 RunsV Try.prog (Builtin.append_ #[(22 : Nat), (22 : Nat)] (22 : Nat) #[slice p1686 k1687 k1688, slice (some ⟨b1689, 0, none⟩) (1 : Nat) (1 : Nat)]) w1690 fun v1691 w1692 =>
 ∃ p1693 : Option Addr,
 ∃ k1694 : Nat,
 ∃ k1695 : Nat,
 (v1691 = slice p1693 k1694 k1695) ∧
 (Wr w1692 ⟨b1555, 3, none⟩) ∧
 LetW (w1692.setCell ⟨b1555, 3, none⟩ (slice p1693 k1694 k1695)) fun w1696 =>
 ∃ n1697 : Int,
 ∃ n1698 : Int,
 ∃ n1699 : Int,
 ∃ p1700 : Option Addr,
 ∃ k1701 : Nat,
 ∃ k1702 : Nat,
 ∃ n1703 : Int,
 ∃ n1704 : Int,
 ∃ n1705 : Int,
 ∃ n1706 : Int,
 ∃ n1707 : Int,
 ∃ n1708 : Int,
 ∃ n1709 : Int,
 ∃ n1710 : Int,
 (Row w1696 ⟨b1555, 0, none⟩ (0 : Nat) [int i64 n1697, int i64 n1698, int i64 n1699, slice p1700 k1701 k1702, int i64 n1703, int i64 n1704, int i64 n1705, int i64 n1706, int i64 n1707, int i64 n1708, int i64 n1709, int i64 n1710]) ∧
 (WrRow w1696 ⟨b17, 0, none⟩ (0 : Nat) [int i64 n1697, int i64 n1698, int i64 n1699, slice p1700 k1701 k1702, int i64 n1703, int i64 n1704, int i64 n1705, int i64 n1706, int i64 n1707, int i64 n1708, int i64 n1709, int i64 n1710]) ∧
 LetW (setRow w1696 ⟨b17, 0, none⟩ (0 : Nat) [int i64 n1697, int i64 n1698, int i64 n1699, slice p1700 k1701 k1702, int i64 n1703, int i64 n1704, int i64 n1705, int i64 n1706, int i64 n1707, int i64 n1708, int i64 n1709, int i64 n1710]) fun w1711 =>
 ∃ n1712 : Int,
 ∃ n1713 : Int,
 ∃ n1714 : Int,
 ∃ p1715 : Option Addr,
 ∃ k1716 : Nat,
 ∃ k1717 : Nat,
 ∃ n1718 : Int,
 ∃ n1719 : Int,
 ∃ n1720 : Int,
 ∃ n1721 : Int,
 ∃ n1722 : Int,
 ∃ n1723 : Int,
 ∃ n1724 : Int,
 ∃ n1725 : Int,
 (Row w1711 ⟨b17, 0, none⟩ (0 : Nat) [int i64 n1712, int i64 n1713, int i64 n1714, slice p1715 k1716 k1717, int i64 n1718, int i64 n1719, int i64 n1720, int i64 n1721, int i64 n1722, int i64 n1723, int i64 n1724, int i64 n1725]) ∧
 R (returned (agg #[int i64 n1712, int i64 n1713, int i64 n1714, slice p1715 k1716 k1717, int i64 n1718, int i64 n1719, int i64 n1720, int i64 n1721, int i64 n1722, int i64 n1723, int i64 n1724, int i64 n1725])) w1711)
 (∃ n1726 : Int,
 ∃ n1727 : Int,
 ∃ n1728 : Int,
 ∃ p1729 : Option Addr,
 ∃ k1730 : Nat,
 ∃ k1731 : Nat,
 ∃ n1732 : Int,
 ∃ n1733 : Int,
 ∃ n1734 : Int,
 ∃ n1735 : Int,
 ∃ n1736 : Int,
 ∃ n1737 : Int,
 ∃ n1738 : Int,
 ∃ n1739 : Int,
 (Row w1586 ⟨b1555, 0, none⟩ (0 : Nat) [int i64 n1726, int i64 n1727, int i64 n1728, slice p1729 k1730 k1731, int i64 n1732, int i64 n1733, int i64 n1734, int i64 n1735, int i64 n1736, int i64 n1737, int i64 n1738, int i64 n1739]) ∧
 (WrRow w1586 ⟨b17, 0, none⟩ (0 : Nat) [int i64 n1726, int i64 n1727, int i64 n1728, slice p1729 k1730 k1731, int i64 n1732, int i64 n1733, int i64 n1734, int i64 n1735, int i64 n1736, int i64 n1737, int i64 n1738, int i64 n1739]) ∧
 LetW (setRow w1586 ⟨b17, 0, none⟩ (0 : Nat) [int i64 n1726, int i64 n1727, int i64 n1728, slice p1729 k1730 k1731, int i64 n1732, int i64 n1733, int i64 n1734, int i64 n1735, int i64 n1736, int i64 n1737, int i64 n1738, int i64 n1739]) fun w1740 =>
 ∃ n1741 : Int,
 ∃ n1742 : Int,
 ∃ n1743 : Int,
 ∃ p1744 : Option Addr,
 ∃ k1745 : Nat,
 ∃ k1746 : Nat,
 ∃ n1747 : Int,
 ∃ n1748 : Int,
 ∃ n1749 : Int,
 ∃ n1750 : Int,
 ∃ n1751 : Int,
 ∃ n1752 : Int,
 ∃ n1753 : Int,
 ∃ n1754 : Int,
 (Row w1740 ⟨b17, 0, none⟩ (0 : Nat) [int i64 n1741, int i64 n1742, int i64 n1743, slice p1744 k1745 k1746, int i64 n1747, int i64 n1748, int i64 n1749, int i64 n1750, int i64 n1751, int i64 n1752, int i64 n1753, int i64 n1754]) ∧
 R (returned (agg #[int i64 n1741, int i64 n1742, int i64 n1743, slice p1744 k1745 k1746, int i64 n1747, int i64 n1748, int i64 n1749, int i64 n1750, int i64 n1751, int i64 n1752, int i64 n1753, int i64 n1754])) w1740))) ∧
 LetA (Obj.cells #[int i64 (0), int i64 (0), int i64 (0), slice none (0 : Nat) (0 : Nat), int i64 (0), int i64 (0), int i64 (0), int i64 (0), int i64 (0), int i64 (0), int i64 (0), int i64 (0)] (24 : Nat)) w34 fun b1755 w1756 =>
 (w1756.cell? ⟨b15, 11, none⟩ = some (int i64 n32)) ∧
 (w1756.cell? ⟨b15, 10, none⟩ = some (int i64 n31)) ∧
 (w1756.cell? ⟨b15, 9, none⟩ = some (int i64 n30)) ∧
 (w1756.cell? ⟨b15, 8, none⟩ = some (int i64 n29)) ∧
 (w1756.cell? ⟨b15, 7, none⟩ = some (int i64 n28)) ∧
 (w1756.cell? ⟨b15, 6, none⟩ = some (int i64 n27)) ∧
 (w1756.cell? ⟨b15, 5, none⟩ = some (int i64 n26)) ∧
 (w1756.cell? ⟨b15, 4, none⟩ = some (int i64 n25)) ∧
 (w1756.cell? ⟨b15, 2, none⟩ = some (int i64 n24)) ∧
 Ca Try.prog (50 : Nat) #[int i64 n24, int i64 (1), int i64 (6)] w1756 fun e1757 w1758 =>
 ∃ n1759 : Int,
 (e1757 = returned (int i64 n1759)) ∧
 (w1758.cell? ⟨b15, 11, none⟩ = some (int i64 n32)) ∧
 (w1758.cell? ⟨b15, 10, none⟩ = some (int i64 n31)) ∧
 (w1758.cell? ⟨b15, 9, none⟩ = some (int i64 n30)) ∧
 (w1758.cell? ⟨b15, 8, none⟩ = some (int i64 n29)) ∧
 (w1758.cell? ⟨b15, 7, none⟩ = some (int i64 n28)) ∧
 (w1758.cell? ⟨b15, 6, none⟩ = some (int i64 n27)) ∧
 (w1758.cell? ⟨b15, 5, none⟩ = some (int i64 n26)) ∧
 (w1758.cell? ⟨b15, 4, none⟩ = some (int i64 n25)) ∧
 Ca Try.prog (50 : Nat) #[int i64 n25, int i64 (1), int i64 (16)] w1758 fun e1760 w1761 =>
 ∃ n1762 : Int,
 (e1760 = returned (int i64 n1762)) ∧
 (w1761.cell? ⟨b15, 11, none⟩ = some (int i64 n32)) ∧
 (w1761.cell? ⟨b15, 10, none⟩ = some (int i64 n31)) ∧
 (w1761.cell? ⟨b15, 9, none⟩ = some (int i64 n30)) ∧
 (w1761.cell? ⟨b15, 8, none⟩ = some (int i64 n29)) ∧
 (w1761.cell? ⟨b15, 7, none⟩ = some (int i64 n28)) ∧
 (w1761.cell? ⟨b15, 6, none⟩ = some (int i64 n27)) ∧
 (w1761.cell? ⟨b15, 5, none⟩ = some (int i64 n26)) ∧
 Ca Try.prog (50 : Nat) #[int i64 n26, int i64 (1), int i64 (16)] w1761 fun e1763 w1764 =>
 ∃ n1765 : Int,
 (e1763 = returned (int i64 n1765)) ∧
 (w1764.cell? ⟨b15, 11, none⟩ = some (int i64 n32)) ∧
 (w1764.cell? ⟨b15, 10, none⟩ = some (int i64 n31)) ∧
 (w1764.cell? ⟨b15, 9, none⟩ = some (int i64 n30)) ∧
 (w1764.cell? ⟨b15, 8, none⟩ = some (int i64 n29)) ∧
 (w1764.cell? ⟨b15, 7, none⟩ = some (int i64 n28)) ∧
 (w1764.cell? ⟨b15, 6, none⟩ = some (int i64 n27)) ∧
 Ca Try.prog (50 : Nat) #[int i64 n27, int i64 (1), int i64 (16)] w1764 fun e1766 w1767 =>
 ∃ n1768 : Int,
 (e1766 = returned (int i64 n1768)) ∧
 (w1767.cell? ⟨b15, 11, none⟩ = some (int i64 n32)) ∧
 (w1767.cell? ⟨b15, 10, none⟩ = some (int i64 n31)) ∧
 (w1767.cell? ⟨b15, 9, none⟩ = some (int i64 n30)) ∧
 (w1767.cell? ⟨b15, 8, none⟩ = some (int i64 n29)) ∧
 (w1767.cell? ⟨b15, 7, none⟩ = some (int i64 n28)) ∧
 Ca Try.prog (50 : Nat) #[int i64 n28, int i64 (4), int i64 (64)] w1767 fun e1769 w1770 =>
 ∃ n1771 : Int,
 (e1769 = returned (int i64 n1771)) ∧
 (w1770.cell? ⟨b15, 11, none⟩ = some (int i64 n32)) ∧
 (w1770.cell? ⟨b15, 10, none⟩ = some (int i64 n31)) ∧
 (w1770.cell? ⟨b15, 9, none⟩ = some (int i64 n30)) ∧
 (w1770.cell? ⟨b15, 8, none⟩ = some (int i64 n29)) ∧
 Ca Try.prog (50 : Nat) #[int i64 n29, int i64 (4), int i64 (64)] w1770 fun e1772 w1773 =>
 ∃ n1774 : Int,
 (e1772 = returned (int i64 n1774)) ∧
 (w1773.cell? ⟨b15, 11, none⟩ = some (int i64 n32)) ∧
 (w1773.cell? ⟨b15, 10, none⟩ = some (int i64 n31)) ∧
 (w1773.cell? ⟨b15, 9, none⟩ = some (int i64 n30)) ∧
 Ca Try.prog (50 : Nat) #[int i64 n30, int i64 (4), int i64 (64)] w1773 fun e1775 w1776 =>
 ∃ n1777 : Int,
 (e1775 = returned (int i64 n1777)) ∧
 (w1776.cell? ⟨b15, 11, none⟩ = some (int i64 n32)) ∧
 (w1776.cell? ⟨b15, 10, none⟩ = some (int i64 n31)) ∧
 Ca Try.prog (50 : Nat) #[int i64 n31, int i64 (0), int i64 (16)] w1776 fun e1778 w1779 =>
 ∃ n1780 : Int,
 (e1778 = returned (int i64 n1780)) ∧
 (w1779.cell? ⟨b15, 11, none⟩ = some (int i64 n32)) ∧
 Ca Try.prog (50 : Nat) #[int i64 n32, int i64 (1), int i64 (1099511627776)] w1779 fun e1781 w1782 =>
 ∃ n1783 : Int,
 (e1781 = returned (int i64 n1783)) ∧
 (WrRow w1782 ⟨b1755, 0, none⟩ (0 : Nat) [int i64 n22, int i64 n35, int i64 n1759, slice none (0 : Nat) (0 : Nat), int i64 n1762, int i64 n1765, int i64 n1768, int i64 n1771, int i64 n1774, int i64 n1777, int i64 n1780, int i64 n1783]) ∧
 LetW (setRow w1782 ⟨b1755, 0, none⟩ (0 : Nat) [int i64 n22, int i64 n35, int i64 n1759, slice none (0 : Nat) (0 : Nat), int i64 n1762, int i64 n1765, int i64 n1768, int i64 n1771, int i64 n1774, int i64 n1777, int i64 n1780, int i64 n1783]) fun w1784 =>
 ∃ I1785 : Nat → List Value → World → Prop,
 (∃ k1786 : Nat,
 I1785 k1786 [int i64 (0)] w1784) ∧
 ∀ n1787 : Int,
 ∀ k1788 : Nat,
 ∀ w1789 : World,
 (I1785 k1788 [int i64 n1787] w1789) →
 ∃ p1790 : Option Addr,
 ∃ k1791 : Nat,
 ∃ k1792 : Nat,
 (w1789.cell? ⟨b15, 3, none⟩ = some (slice p1790 k1791 k1792)) ∧
 Br (decide (n1787 < (↑k1791 : Int)))
 (Br (decide (n1787 < (4 : Int)))
 (∃ p1793 : Option Addr,
 ∃ k1794 : Nat,
 ∃ k1795 : Nat,
 (w1789.cell? ⟨b1755, 3, none⟩ = some (slice p1793 k1794 k1795)) ∧
 ∃ p1796 : Option Addr,
 ∃ k1797 : Nat,
 ∃ k1798 : Nat,
 (w1789.cell? ⟨b15, 3, none⟩ = some (slice p1796 k1797 k1798)) ∧
 NilOk p1796 fun a1799 =>
 ((
 (0 : Int) ≤ n1787) ∧
 n1787 < (↑k1797 : Int)) ∧
 ∃ n1800 : Int,
 (w1789.cell? (a1799.add (n1787.toNat * (1 : Nat))) = some (int i64 n1800)) ∧
 Ca Try.prog (50 : Nat) #[int i64 n1800, int i64 (96), int i64 (65536)] w1789 fun e1801 w1802 =>
 ∃ n1803 : Int,
 (e1801 = returned (int i64 n1803)) ∧
 (w1802.cell? ⟨b1755, 3, none⟩ = some (slice p1793 k1794 k1795)) ∧
 LetA (Obj.cells #[int i64 n1803] (3 : Nat)) w1802 fun b1804 w1805 =>
 (w1805.cell? ⟨b1755, 3, none⟩ = some (slice p1793 k1794 k1795)) ∧
 RunsV Try.prog (Builtin.append_ #[(22 : Nat), (22 : Nat)] (22 : Nat) #[slice p1793 k1794 k1795, slice (some ⟨b1804, 0, none⟩) (1 : Nat) (1 : Nat)]) w1805 fun v1806 w1807 =>
 ∃ p1808 : Option Addr,
 ∃ k1809 : Nat,
 ∃ k1810 : Nat,
 (v1806 = slice p1808 k1809 k1810) ∧
 (Wr w1807 ⟨b1755, 3, none⟩) ∧
 LetW (w1807.setCell ⟨b1755, 3, none⟩ (slice p1808 k1809 k1810)) fun w1811 =>
 LetI (i64.wrap (n1787 + (1 : Int))) fun n1812 =>
 ∃ k1813 : Nat,
 (k1813 < k1788) ∧
 I1785 k1813 [int i64 n1812] w1811)
 (∃ p1814 : Option Addr,
 ∃ k1815 : Nat,
 ∃ k1816 : Nat,
 (w1789.cell? ⟨b1755, 3, none⟩ = some (slice p1814 k1815 k1816)) ∧
 Br ((↑k1815 : Int) == (0 : Int))
 (∃ p1817 : Option Addr,
 ∃ k1818 : Nat,
 ∃ k1819 : Nat,
 (w1789.cell? ⟨b1755, 3, none⟩ = some (slice p1817 k1818 k1819)) ∧
 LetA (Obj.cells #[int i64 (96)] (3 : Nat)) w1789 fun b1820 w1821 =>
 RunsV Try.prog (Builtin.append_ #[(22 : Nat), (22 : Nat)] (22 : Nat) #[slice p1817 k1818 k1819, slice (some ⟨b1820, 0, none⟩) (1 : Nat) (1 : Nat)]) w1821 fun v1822 w1823 =>
 ∃ p1824 : Option Addr,
 ∃ k1825 : Nat,
 ∃ k1826 : Nat,
 (v1822 = slice p1824 k1825 k1826) ∧
 (Wr w1823 ⟨b1755, 3, none⟩) ∧
 LetW (w1823.setCell ⟨b1755, 3, none⟩ (slice p1824 k1825 k1826)) fun w1827 =>
 ∃ n1828 : Int,
 ∃ n1829 : Int,
 ∃ n1830 : Int,
 ∃ p1831 : Option Addr,
 ∃ k1832 : Nat,
 ∃ k1833 : Nat,
 ∃ n1834 : Int,
 ∃ n1835 : Int,
 ∃ n1836 : Int,
 ∃ n1837 : Int,
 ∃ n1838 : Int,
 ∃ n1839 : Int,
 ∃ n1840 : Int,
 ∃ n1841 : Int,
 (Row w1827 ⟨b1755, 0, none⟩ (0 : Nat) [int i64 n1828, int i64 n1829, int i64 n1830, slice p1831 k1832 k1833, int i64 n1834, int i64 n1835, int i64 n1836, int i64 n1837, int i64 n1838, int i64 n1839, int i64 n1840, int i64 n1841]) ∧
 (WrRow w1827 ⟨b17, 0, none⟩ (0 : Nat) [int i64 n1828, int i64 n1829, int i64 n1830, slice p1831 k1832 k1833, int i64 n1834, int i64 n1835, int i64 n1836, int i64 n1837, int i64 n1838, int i64 n1839, int i64 n1840, int i64 n1841]) ∧
 LetW (setRow w1827 ⟨b17, 0, none⟩ (0 : Nat) [int i64 n1828, int i64 n1829, int i64 n1830, slice p1831 k1832 k1833, int i64 n1834, int i64 n1835, int i64 n1836, int i64 n1837, int i64 n1838, int i64 n1839, int i64 n1840, int i64 n1841]) fun w1842 =>
 ∃ n1843 : Int,
 ∃ n1844 : Int,
 ∃ n1845 : Int,
 ∃ p1846 : Option Addr,
 ∃ k1847 : Nat,
 ∃ k1848 : Nat,
 ∃ n1849 : Int,
 ∃ n1850 : Int,
 ∃ n1851 : Int,
 ∃ n1852 : Int,
 ∃ n1853 : Int,
 ∃ n1854 : Int,
 ∃ n1855 : Int,
 ∃ n1856 : Int,
 (Row w1842 ⟨b17, 0, none⟩ (0 : Nat) [int i64 n1843, int i64 n1844, int i64 n1845, slice p1846 k1847 k1848, int i64 n1849, int i64 n1850, int i64 n1851, int i64 n1852, int i64 n1853, int i64 n1854, int i64 n1855, int i64 n1856]) ∧
 R (returned (agg #[int i64 n1843, int i64 n1844, int i64 n1845, slice p1846 k1847 k1848, int i64 n1849, int i64 n1850, int i64 n1851, int i64 n1852, int i64 n1853, int i64 n1854, int i64 n1855, int i64 n1856])) w1842)
 (∃ n1857 : Int,
 ∃ n1858 : Int,
 ∃ n1859 : Int,
 ∃ p1860 : Option Addr,
 ∃ k1861 : Nat,
 ∃ k1862 : Nat,
 ∃ n1863 : Int,
 ∃ n1864 : Int,
 ∃ n1865 : Int,
 ∃ n1866 : Int,
 ∃ n1867 : Int,
 ∃ n1868 : Int,
 ∃ n1869 : Int,
 ∃ n1870 : Int,
 (Row w1789 ⟨b1755, 0, none⟩ (0 : Nat) [int i64 n1857, int i64 n1858, int i64 n1859, slice p1860 k1861 k1862, int i64 n1863, int i64 n1864, int i64 n1865, int i64 n1866, int i64 n1867, int i64 n1868, int i64 n1869, int i64 n1870]) ∧
 (WrRow w1789 ⟨b17, 0, none⟩ (0 : Nat) [int i64 n1857, int i64 n1858, int i64 n1859, slice p1860 k1861 k1862, int i64 n1863, int i64 n1864, int i64 n1865, int i64 n1866, int i64 n1867, int i64 n1868, int i64 n1869, int i64 n1870]) ∧
 LetW (setRow w1789 ⟨b17, 0, none⟩ (0 : Nat) [int i64 n1857, int i64 n1858, int i64 n1859, slice p1860 k1861 k1862, int i64 n1863, int i64 n1864, int i64 n1865, int i64 n1866, int i64 n1867, int i64 n1868, int i64 n1869, int i64 n1870]) fun w1871 =>
 ∃ n1872 : Int,
 ∃ n1873 : Int,
 ∃ n1874 : Int,
 ∃ p1875 : Option Addr,
 ∃ k1876 : Nat,
 ∃ k1877 : Nat,
 ∃ n1878 : Int,
 ∃ n1879 : Int,
 ∃ n1880 : Int,
 ∃ n1881 : Int,
 ∃ n1882 : Int,
 ∃ n1883 : Int,
 ∃ n1884 : Int,
 ∃ n1885 : Int,
 (Row w1871 ⟨b17, 0, none⟩ (0 : Nat) [int i64 n1872, int i64 n1873, int i64 n1874, slice p1875 k1876 k1877, int i64 n1878, int i64 n1879, int i64 n1880, int i64 n1881, int i64 n1882, int i64 n1883, int i64 n1884, int i64 n1885]) ∧
 R (returned (agg #[int i64 n1872, int i64 n1873, int i64 n1874, slice p1875 k1876 k1877, int i64 n1878, int i64 n1879, int i64 n1880, int i64 n1881, int i64 n1882, int i64 n1883, int i64 n1884, int i64 n1885])) w1871)))
 (∃ p1886 : Option Addr,
 ∃ k1887 : Nat,
 ∃ k1888 : Nat,
 (w1789.cell? ⟨b1755, 3, none⟩ = some (slice p1886 k1887 k1888)) ∧
 Br ((↑k1887 : Int) == (0 : Int))
 (∃ p1889 : Option Addr,
 ∃ k1890 : Nat,
 ∃ k1891 : Nat,
 (w1789.cell? ⟨b1755, 3, none⟩ = some (slice p1889 k1890 k1891)) ∧
 LetA (Obj.cells #[int i64 (96)] (3 : Nat)) w1789 fun b1892 w1893 =>
 RunsV Try.prog (Builtin.append_ #[(22 : Nat), (22 : Nat)] (22 : Nat) #[slice p1889 k1890 k1891, slice (some ⟨b1892, 0, none⟩) (1 : Nat) (1 : Nat)]) w1893 fun v1894 w1895 =>
 ∃ p1896 : Option Addr,
 ∃ k1897 : Nat,
 ∃ k1898 : Nat,
 (v1894 = slice p1896 k1897 k1898) ∧
 (Wr w1895 ⟨b1755, 3, none⟩) ∧
 LetW (w1895.setCell ⟨b1755, 3, none⟩ (slice p1896 k1897 k1898)) fun w1899 =>
 ∃ n1900 : Int,
 ∃ n1901 : Int,
 ∃ n1902 : Int,
 ∃ p1903 : Option Addr,
 ∃ k1904 : Nat,
 ∃ k1905 : Nat,
 ∃ n1906 : Int,
 ∃ n1907 : Int,
 ∃ n1908 : Int,
 ∃ n1909 : Int,
 ∃ n1910 : Int,
 ∃ n1911 : Int,
 ∃ n1912 : Int,
 ∃ n1913 : Int,
 (Row w1899 ⟨b1755, 0, none⟩ (0 : Nat) [int i64 n1900, int i64 n1901, int i64 n1902, slice p1903 k1904 k1905, int i64 n1906, int i64 n1907, int i64 n1908, int i64 n1909, int i64 n1910, int i64 n1911, int i64 n1912, int i64 n1913]) ∧
 (WrRow w1899 ⟨b17, 0, none⟩ (0 : Nat) [int i64 n1900, int i64 n1901, int i64 n1902, slice p1903 k1904 k1905, int i64 n1906, int i64 n1907, int i64 n1908, int i64 n1909, int i64 n1910, int i64 n1911, int i64 n1912, int i64 n1913]) ∧
 LetW (setRow w1899 ⟨b17, 0, none⟩ (0 : Nat) [int i64 n1900, int i64 n1901, int i64 n1902, slice p1903 k1904 k1905, int i64 n1906, int i64 n1907, int i64 n1908, int i64 n1909, int i64 n1910, int i64 n1911, int i64 n1912, int i64 n1913]) fun w1914 =>
 ∃ n1915 : Int,
 ∃ n1916 : Int,
 ∃ n1917 : Int,
 ∃ p1918 : Option Addr,
 ∃ k1919 : Nat,
 ∃ k1920 : Nat,
 ∃ n1921 : Int,
 ∃ n1922 : Int,
 ∃ n1923 : Int,
 ∃ n1924 : Int,
 ∃ n1925 : Int,
 ∃ n1926 : Int,
 ∃ n1927 : Int,
 ∃ n1928 : Int,
 (Row w1914 ⟨b17, 0, none⟩ (0 : Nat) [int i64 n1915, int i64 n1916, int i64 n1917, slice p1918 k1919 k1920, int i64 n1921, int i64 n1922, int i64 n1923, int i64 n1924, int i64 n1925, int i64 n1926, int i64 n1927, int i64 n1928]) ∧
 R (returned (agg #[int i64 n1915, int i64 n1916, int i64 n1917, slice p1918 k1919 k1920, int i64 n1921, int i64 n1922, int i64 n1923, int i64 n1924, int i64 n1925, int i64 n1926, int i64 n1927, int i64 n1928])) w1914)
 (∃ n1929 : Int,
 ∃ n1930 : Int,
 ∃ n1931 : Int,
 ∃ p1932 : Option Addr,
 ∃ k1933 : Nat,
 ∃ k1934 : Nat,
 ∃ n1935 : Int,
 ∃ n1936 : Int,
 ∃ n1937 : Int,
 ∃ n1938 : Int,
 ∃ n1939 : Int,
 ∃ n1940 : Int,
 ∃ n1941 : Int,
 ∃ n1942 : Int,
 (Row w1789 ⟨b1755, 0, none⟩ (0 : Nat) [int i64 n1929, int i64 n1930, int i64 n1931, slice p1932 k1933 k1934, int i64 n1935, int i64 n1936, int i64 n1937, int i64 n1938, int i64 n1939, int i64 n1940, int i64 n1941, int i64 n1942]) ∧
 (WrRow w1789 ⟨b17, 0, none⟩ (0 : Nat) [int i64 n1929, int i64 n1930, int i64 n1931, slice p1932 k1933 k1934, int i64 n1935, int i64 n1936, int i64 n1937, int i64 n1938, int i64 n1939, int i64 n1940, int i64 n1941, int i64 n1942]) ∧
 LetW (setRow w1789 ⟨b17, 0, none⟩ (0 : Nat) [int i64 n1929, int i64 n1930, int i64 n1931, slice p1932 k1933 k1934, int i64 n1935, int i64 n1936, int i64 n1937, int i64 n1938, int i64 n1939, int i64 n1940, int i64 n1941, int i64 n1942]) fun w1943 =>
 ∃ n1944 : Int,
 ∃ n1945 : Int,
 ∃ n1946 : Int,
 ∃ p1947 : Option Addr,
 ∃ k1948 : Nat,
 ∃ k1949 : Nat,
 ∃ n1950 : Int,
 ∃ n1951 : Int,
 ∃ n1952 : Int,
 ∃ n1953 : Int,
 ∃ n1954 : Int,
 ∃ n1955 : Int,
 ∃ n1956 : Int,
 ∃ n1957 : Int,
 (Row w1943 ⟨b17, 0, none⟩ (0 : Nat) [int i64 n1944, int i64 n1945, int i64 n1946, slice p1947 k1948 k1949, int i64 n1950, int i64 n1951, int i64 n1952, int i64 n1953, int i64 n1954, int i64 n1955, int i64 n1956, int i64 n1957]) ∧
 R (returned (agg #[int i64 n1944, int i64 n1945, int i64 n1946, slice p1947 k1948 k1949, int i64 n1950, int i64 n1951, int i64 n1952, int i64 n1953, int i64 n1954, int i64 n1955, int i64 n1956, int i64 n1957])) w1943))) ∧
 LetA (Obj.cells #[int i64 (0), int i64 (0), int i64 (0), slice none (0 : Nat) (0 : Nat), int i64 (0), int i64 (0), int i64 (0), int i64 (0), int i64 (0), int i64 (0), int i64 (0), int i64 (0)] (24 : Nat)) w21 fun b1958 w1959 =>
 (w1959.cell? ⟨b15, 11, none⟩ = some (int i64 n32)) ∧
 (w1959.cell? ⟨b15, 10, none⟩ = some (int i64 n31)) ∧
 (w1959.cell? ⟨b15, 9, none⟩ = some (int i64 n30)) ∧
 (w1959.cell? ⟨b15, 8, none⟩ = some (int i64 n29)) ∧
 (w1959.cell? ⟨b15, 7, none⟩ = some (int i64 n28)) ∧
 (w1959.cell? ⟨b15, 6, none⟩ = some (int i64 n27)) ∧
 (w1959.cell? ⟨b15, 5, none⟩ = some (int i64 n26)) ∧
 (w1959.cell? ⟨b15, 4, none⟩ = some (int i64 n25)) ∧
 (w1959.cell? ⟨b15, 2, none⟩ = some (int i64 n24)) ∧
 (w1959.cell? ⟨b15, 1, none⟩ = some (int i64 n23)) ∧
 Ca Try.prog (50 : Nat) #[int i64 n23, int i64 (1), int i64 n22] w1959 fun e1960 w1961 =>
 ∃ n1962 : Int,
 (e1960 = returned (int i64 n1962)) ∧
 (w1961.cell? ⟨b15, 11, none⟩ = some (int i64 n32)) ∧
 (w1961.cell? ⟨b15, 10, none⟩ = some (int i64 n31)) ∧
 (w1961.cell? ⟨b15, 9, none⟩ = some (int i64 n30)) ∧
 (w1961.cell? ⟨b15, 8, none⟩ = some (int i64 n29)) ∧
 (w1961.cell? ⟨b15, 7, none⟩ = some (int i64 n28)) ∧
 (w1961.cell? ⟨b15, 6, none⟩ = some (int i64 n27)) ∧
 (w1961.cell? ⟨b15, 5, none⟩ = some (int i64 n26)) ∧
 (w1961.cell? ⟨b15, 4, none⟩ = some (int i64 n25)) ∧
 (w1961.cell? ⟨b15, 2, none⟩ = some (int i64 n24)) ∧
 Ca Try.prog (50 : Nat) #[int i64 n24, int i64 (1), int i64 (6)] w1961 fun e1963 w1964 =>
 ∃ n1965 : Int,
 (e1963 = returned (int i64 n1965)) ∧
 (w1964.cell? ⟨b15, 11, none⟩ = some (int i64 n32)) ∧
 (w1964.cell? ⟨b15, 10, none⟩ = some (int i64 n31)) ∧
 (w1964.cell? ⟨b15, 9, none⟩ = some (int i64 n30)) ∧
 (w1964.cell? ⟨b15, 8, none⟩ = some (int i64 n29)) ∧
 (w1964.cell? ⟨b15, 7, none⟩ = some (int i64 n28)) ∧
 (w1964.cell? ⟨b15, 6, none⟩ = some (int i64 n27)) ∧
 (w1964.cell? ⟨b15, 5, none⟩ = some (int i64 n26)) ∧
 (w1964.cell? ⟨b15, 4, none⟩ = some (int i64 n25)) ∧
 Ca Try.prog (50 : Nat) #[int i64 n25, int i64 (1), int i64 (16)] w1964 fun e1966 w1967 =>
 ∃ n1968 : Int,
 (e1966 = returned (int i64 n1968)) ∧
 (w1967.cell? ⟨b15, 11, none⟩ = some (int i64 n32)) ∧
 (w1967.cell? ⟨b15, 10, none⟩ = some (int i64 n31)) ∧
 (w1967.cell? ⟨b15, 9, none⟩ = some (int i64 n30)) ∧
 (w1967.cell? ⟨b15, 8, none⟩ = some (int i64 n29)) ∧
 (w1967.cell? ⟨b15, 7, none⟩ = some (int i64 n28)) ∧
 (w1967.cell? ⟨b15, 6, none⟩ = some (int i64 n27)) ∧
 (w1967.cell? ⟨b15, 5, none⟩ = some (int i64 n26)) ∧
 Ca Try.prog (50 : Nat) #[int i64 n26, int i64 (1), int i64 (16)] w1967 fun e1969 w1970 =>
 ∃ n1971 : Int,
 (e1969 = returned (int i64 n1971)) ∧
 (w1970.cell? ⟨b15, 11, none⟩ = some (int i64 n32)) ∧
 (w1970.cell? ⟨b15, 10, none⟩ = some (int i64 n31)) ∧
 (w1970.cell? ⟨b15, 9, none⟩ = some (int i64 n30)) ∧
 (w1970.cell? ⟨b15, 8, none⟩ = some (int i64 n29)) ∧
 (w1970.cell? ⟨b15, 7, none⟩ = some (int i64 n28)) ∧
 (w1970.cell? ⟨b15, 6, none⟩ = some (int i64 n27)) ∧
 Ca Try.prog (50 : Nat) #[int i64 n27, int i64 (1), int i64 (16)] w1970 fun e1972 w1973 =>
 ∃ n1974 : Int,
 (e1972 = returned (int i64 n1974)) ∧
 (w1973.cell? ⟨b15, 11, none⟩ = some (int i64 n32)) ∧
 (w1973.cell? ⟨b15, 10, none⟩ = some (int i64 n31)) ∧
 (w1973.cell? ⟨b15, 9, none⟩ = some (int i64 n30)) ∧
 (w1973.cell? ⟨b15, 8, none⟩ = some (int i64 n29)) ∧
 (w1973.cell? ⟨b15, 7, none⟩ = some (int i64 n28)) ∧
 Ca Try.prog (50 : Nat) #[int i64 n28, int i64 (4), int i64 (64)] w1973 fun e1975 w1976 =>
 ∃ n1977 : Int,
 (e1975 = returned (int i64 n1977)) ∧
 (w1976.cell? ⟨b15, 11, none⟩ = some (int i64 n32)) ∧
 (w1976.cell? ⟨b15, 10, none⟩ = some (int i64 n31)) ∧
 (w1976.cell? ⟨b15, 9, none⟩ = some (int i64 n30)) ∧
 (w1976.cell? ⟨b15, 8, none⟩ = some (int i64 n29)) ∧
 Ca Try.prog (50 : Nat) #[int i64 n29, int i64 (4), int i64 (64)] w1976 fun e1978 w1979 =>
 ∃ n1980 : Int,
 (e1978 = returned (int i64 n1980)) ∧
 (w1979.cell? ⟨b15, 11, none⟩ = some (int i64 n32)) ∧
 (w1979.cell? ⟨b15, 10, none⟩ = some (int i64 n31)) ∧
 (w1979.cell? ⟨b15, 9, none⟩ = some (int i64 n30)) ∧
 Ca Try.prog (50 : Nat) #[int i64 n30, int i64 (4), int i64 (64)] w1979 fun e1981 w1982 =>
 ∃ n1983 : Int,
 (e1981 = returned (int i64 n1983)) ∧
 (w1982.cell? ⟨b15, 11, none⟩ = some (int i64 n32)) ∧
 (w1982.cell? ⟨b15, 10, none⟩ = some (int i64 n31)) ∧
 Ca Try.prog (50 : Nat) #[int i64 n31, int i64 (0), int i64 (16)] w1982 fun e1984 w1985 =>
 ∃ n1986 : Int,
 (e1984 = returned (int i64 n1986)) ∧
 (w1985.cell? ⟨b15, 11, none⟩ = some (int i64 n32)) ∧
 Ca Try.prog (50 : Nat) #[int i64 n32, int i64 (1), int i64 (1099511627776)] w1985 fun e1987 w1988 =>
 ∃ n1989 : Int,
 (e1987 = returned (int i64 n1989)) ∧
 (WrRow w1988 ⟨b1958, 0, none⟩ (0 : Nat) [int i64 n22, int i64 n1962, int i64 n1965, slice none (0 : Nat) (0 : Nat), int i64 n1968, int i64 n1971, int i64 n1974, int i64 n1977, int i64 n1980, int i64 n1983, int i64 n1986, int i64 n1989]) ∧
 LetW (setRow w1988 ⟨b1958, 0, none⟩ (0 : Nat) [int i64 n22, int i64 n1962, int i64 n1965, slice none (0 : Nat) (0 : Nat), int i64 n1968, int i64 n1971, int i64 n1974, int i64 n1977, int i64 n1980, int i64 n1983, int i64 n1986, int i64 n1989]) fun w1990 =>
 ∃ I1991 : Nat → List Value → World → Prop,
 (∃ k1992 : Nat,
 I1991 k1992 [int i64 (0)] w1990) ∧
 ∀ n1993 : Int,
 ∀ k1994 : Nat,
 ∀ w1995 : World,
 (I1991 k1994 [int i64 n1993] w1995) →
 ∃ p1996 : Option Addr,
 ∃ k1997 : Nat,
 ∃ k1998 : Nat,
 (w1995.cell? ⟨b15, 3, none⟩ = some (slice p1996 k1997 k1998)) ∧
 Br (decide (n1993 < (↑k1997 : Int)))
 (Br (decide (n1993 < (4 : Int)))
 (∃ p1999 : Option Addr,
 ∃ k2000 : Nat,
 ∃ k2001 : Nat,
 (w1995.cell? ⟨b1958, 3, none⟩ = some (slice p1999 k2000 k2001)) ∧
 ∃ p2002 : Option Addr,
 ∃ k2003 : Nat,
 ∃ k2004 : Nat,
 (w1995.cell? ⟨b15, 3, none⟩ = some (slice p2002 k2003 k2004)) ∧
 NilOk p2002 fun a2005 =>
 ((
 (0 : Int) ≤ n1993) ∧
 n1993 < (↑k2003 : Int)) ∧
 ∃ n2006 : Int,
 (w1995.cell? (a2005.add (n1993.toNat * (1 : Nat))) = some (int i64 n2006)) ∧
 Ca Try.prog (50 : Nat) #[int i64 n2006, int i64 (96), int i64 (65536)] w1995 fun e2007 w2008 =>
 ∃ n2009 : Int,
 (e2007 = returned (int i64 n2009)) ∧
 (w2008.cell? ⟨b1958, 3, none⟩ = some (slice p1999 k2000 k2001)) ∧
 LetA (Obj.cells #[int i64 n2009] (3 : Nat)) w2008 fun b2010 w2011 =>
 (w2011.cell? ⟨b1958, 3, none⟩ = some (slice p1999 k2000 k2001)) ∧
 RunsV Try.prog (Builtin.append_ #[(22 : Nat), (22 : Nat)] (22 : Nat) #[slice p1999 k2000 k2001, slice (some ⟨b2010, 0, none⟩) (1 : Nat) (1 : Nat)]) w2011 fun v2012 w2013 =>
 ∃ p2014 : Option Addr,
 ∃ k2015 : Nat,
 ∃ k2016 : Nat,
 (v2012 = slice p2014 k2015 k2016) ∧
 (Wr w2013 ⟨b1958, 3, none⟩) ∧
 LetW (w2013.setCell ⟨b1958, 3, none⟩ (slice p2014 k2015 k2016)) fun w2017 =>
 LetI (i64.wrap (n1993 + (1 : Int))) fun n2018 =>
 ∃ k2019 : Nat,
 (k2019 < k1994) ∧
 I1991 k2019 [int i64 n2018] w2017)
 (∃ p2020 : Option Addr,
 ∃ k2021 : Nat,
 ∃ k2022 : Nat,
 (w1995.cell? ⟨b1958, 3, none⟩ = some (slice p2020 k2021 k2022)) ∧
 Br ((↑k2021 : Int) == (0 : Int))
 (∃ p2023 : Option Addr,
 ∃ k2024 : Nat,
 ∃ k2025 : Nat,
 (w1995.cell? ⟨b1958, 3, none⟩ = some (slice p2023 k2024 k2025)) ∧
 LetA (Obj.cells #[int i64 (96)] (3 : Nat)) w1995 fun b2026 w2027 =>
 RunsV Try.prog (Builtin.append_ #[(22 : Nat), (22 : Nat)] (22 : Nat) #[slice p2023 k2024 k2025, slice (some ⟨b2026, 0, none⟩) (1 : Nat) (1 : Nat)]) w2027 fun v2028 w2029 =>
 ∃ p2030 : Option Addr,
 ∃ k2031 : Nat,
 ∃ k2032 : Nat,
 (v2028 = slice p2030 k2031 k2032) ∧
 (Wr w2029 ⟨b1958, 3, none⟩) ∧
 LetW (w2029.setCell ⟨b1958, 3, none⟩ (slice p2030 k2031 k2032)) fun w2033 =>
 ∃ n2034 : Int,
 ∃ n2035 : Int,
 ∃ n2036 : Int,
 ∃ p2037 : Option Addr,
 ∃ k2038 : Nat,
 ∃ k2039 : Nat,
 ∃ n2040 : Int,
 ∃ n2041 : Int,
 ∃ n2042 : Int,
 ∃ n2043 : Int,
 ∃ n2044 : Int,
 ∃ n2045 : Int,
 ∃ n2046 : Int,
 ∃ n2047 : Int,
 (Row w2033 ⟨b1958, 0, none⟩ (0 : Nat) [int i64 n2034, int i64 n2035, int i64 n2036, slice p2037 k2038 k2039, int i64 n2040, int i64 n2041, int i64 n2042, int i64 n2043, int i64 n2044, int i64 n2045, int i64 n2046, int i64 n2047]) ∧
 (WrRow w2033 ⟨b17, 0, none⟩ (0 : Nat) [int i64 n2034, int i64 n2035, int i64 n2036, slice p2037 k2038 k2039, int i64 n2040, int i64 n2041, int i64 n2042, int i64 n2043, int i64 n2044, int i64 n2045, int i64 n2046, int i64 n2047]) ∧
 LetW (setRow w2033 ⟨b17, 0, none⟩ (0 : Nat) [int i64 n2034, int i64 n2035, int i64 n2036, slice p2037 k2038 k2039, int i64 n2040, int i64 n2041, int i64 n2042, int i64 n2043, int i64 n2044, int i64 n2045, int i64 n2046, int i64 n2047]) fun w2048 =>
 ∃ n2049 : Int,
 ∃ n2050 : Int,
 ∃ n2051 : Int,
 ∃ p2052 : Option Addr,
 ∃ k2053 : Nat,
 ∃ k2054 : Nat,
 ∃ n2055 : Int,
 ∃ n2056 : Int,
 ∃ n2057 : Int,
 ∃ n2058 : Int,
 ∃ n2059 : Int,
 ∃ n2060 : Int,
 ∃ n2061 : Int,
 ∃ n2062 : Int,
 (Row w2048 ⟨b17, 0, none⟩ (0 : Nat) [int i64 n2049, int i64 n2050, int i64 n2051, slice p2052 k2053 k2054, int i64 n2055, int i64 n2056, int i64 n2057, int i64 n2058, int i64 n2059, int i64 n2060, int i64 n2061, int i64 n2062]) ∧
 R (returned (agg #[int i64 n2049, int i64 n2050, int i64 n2051, slice p2052 k2053 k2054, int i64 n2055, int i64 n2056, int i64 n2057, int i64 n2058, int i64 n2059, int i64 n2060, int i64 n2061, int i64 n2062])) w2048)
 (∃ n2063 : Int,
 ∃ n2064 : Int,
 ∃ n2065 : Int,
 ∃ p2066 : Option Addr,
 ∃ k2067 : Nat,
 ∃ k2068 : Nat,
 ∃ n2069 : Int,
 ∃ n2070 : Int,
 ∃ n2071 : Int,
 ∃ n2072 : Int,
 ∃ n2073 : Int,
 ∃ n2074 : Int,
 ∃ n2075 : Int,
 ∃ n2076 : Int,
 (Row w1995 ⟨b1958, 0, none⟩ (0 : Nat) [int i64 n2063, int i64 n2064, int i64 n2065, slice p2066 k2067 k2068, int i64 n2069, int i64 n2070, int i64 n2071, int i64 n2072, int i64 n2073, int i64 n2074, int i64 n2075, int i64 n2076]) ∧
 (WrRow w1995 ⟨b17, 0, none⟩ (0 : Nat) [int i64 n2063, int i64 n2064, int i64 n2065, slice p2066 k2067 k2068, int i64 n2069, int i64 n2070, int i64 n2071, int i64 n2072, int i64 n2073, int i64 n2074, int i64 n2075, int i64 n2076]) ∧
 LetW (setRow w1995 ⟨b17, 0, none⟩ (0 : Nat) [int i64 n2063, int i64 n2064, int i64 n2065, slice p2066 k2067 k2068, int i64 n2069, int i64 n2070, int i64 n2071, int i64 n2072, int i64 n2073, int i64 n2074, int i64 n2075, int i64 n2076]) fun w2077 =>
 ∃ n2078 : Int,
 ∃ n2079 : Int,
 ∃ n2080 : Int,
 ∃ p2081 : Option Addr,
 ∃ k2082 : Nat,
 ∃ k2083 : Nat,
 ∃ n2084 : Int,
 ∃ n2085 : Int,
 ∃ n2086 : Int,
 ∃ n2087 : Int,
 ∃ n2088 : Int,
 ∃ n2089 : Int,
 ∃ n2090 : Int,
 ∃ n2091 : Int,
 (Row w2077 ⟨b17, 0, none⟩ (0 : Nat) [int i64 n2078, int i64 n2079, int i64 n2080, slice p2081 k2082 k2083, int i64 n2084, int i64 n2085, int i64 n2086, int i64 n2087, int i64 n2088, int i64 n2089, int i64 n2090, int i64 n2091]) ∧
 R (returned (agg #[int i64 n2078, int i64 n2079, int i64 n2080, slice p2081 k2082 k2083, int i64 n2084, int i64 n2085, int i64 n2086, int i64 n2087, int i64 n2088, int i64 n2089, int i64 n2090, int i64 n2091])) w2077)))
 (∃ p2092 : Option Addr,
 ∃ k2093 : Nat,
 ∃ k2094 : Nat,
 (w1995.cell? ⟨b1958, 3, none⟩ = some (slice p2092 k2093 k2094)) ∧
 Br ((↑k2093 : Int) == (0 : Int))
 (∃ p2095 : Option Addr,
 ∃ k2096 : Nat,
 ∃ k2097 : Nat,
 (w1995.cell? ⟨b1958, 3, none⟩ = some (slice p2095 k2096 k2097)) ∧
 LetA (Obj.cells #[int i64 (96)] (3 : Nat)) w1995 fun b2098 w2099 =>
 RunsV Try.prog (Builtin.append_ #[(22 : Nat), (22 : Nat)] (22 : Nat) #[slice p2095 k2096 k2097, slice (some ⟨b2098, 0, none⟩) (1 : Nat) (1 : Nat)]) w2099 fun v2100 w2101 =>
 ∃ p2102 : Option Addr,
 ∃ k2103 : Nat,
 ∃ k2104 : Nat,
 (v2100 = slice p2102 k2103 k2104) ∧
 (Wr w2101 ⟨b1958, 3, none⟩) ∧
 LetW (w2101.setCell ⟨b1958, 3, none⟩ (slice p2102 k2103 k2104)) fun w2105 =>
 ∃ n2106 : Int,
 ∃ n2107 : Int,
 ∃ n2108 : Int,
 ∃ p2109 : Option Addr,
 ∃ k2110 : Nat,
 ∃ k2111 : Nat,
 ∃ n2112 : Int,
 ∃ n2113 : Int,
 ∃ n2114 : Int,
 ∃ n2115 : Int,
 ∃ n2116 : Int,
 ∃ n2117 : Int,
 ∃ n2118 : Int,
 ∃ n2119 : Int,
 (Row w2105 ⟨b1958, 0, none⟩ (0 : Nat) [int i64 n2106, int i64 n2107, int i64 n2108, slice p2109 k2110 k2111, int i64 n2112, int i64 n2113, int i64 n2114, int i64 n2115, int i64 n2116, int i64 n2117, int i64 n2118, int i64 n2119]) ∧
 (WrRow w2105 ⟨b17, 0, none⟩ (0 : Nat) [int i64 n2106, int i64 n2107, int i64 n2108, slice p2109 k2110 k2111, int i64 n2112, int i64 n2113, int i64 n2114, int i64 n2115, int i64 n2116, int i64 n2117, int i64 n2118, int i64 n2119]) ∧
 LetW (setRow w2105 ⟨b17, 0, none⟩ (0 : Nat) [int i64 n2106, int i64 n2107, int i64 n2108, slice p2109 k2110 k2111, int i64 n2112, int i64 n2113, int i64 n2114, int i64 n2115, int i64 n2116, int i64 n2117, int i64 n2118, int i64 n2119]) fun w2120 =>
 ∃ n2121 : Int,
 ∃ n2122 : Int,
 ∃ n2123 : Int,
 ∃ p2124 : Option Addr,
 ∃ k2125 : Nat,
 ∃ k2126 : Nat,
 ∃ n2127 : Int,
 ∃ n2128 : Int,
 ∃ n2129 : Int,
 ∃ n2130 : Int,
 ∃ n2131 : Int,
 ∃ n2132 : Int,
 ∃ n2133 : Int,
 ∃ n2134 : Int,
 (Row w2120 ⟨b17, 0, none⟩ (0 : Nat) [int i64 n2121, int i64 n2122, int i64 n2123, slice p2124 k2125 k2126, int i64 n2127, int i64 n2128, int i64 n2129, int i64 n2130, int i64 n2131, int i64 n2132, int i64 n2133, int i64 n2134]) ∧
 R (returned (agg #[int i64 n2121, int i64 n2122, int i64 n2123, slice p2124 k2125 k2126, int i64 n2127, int i64 n2128, int i64 n2129, int i64 n2130, int i64 n2131, int i64 n2132, int i64 n2133, int i64 n2134])) w2120)
 (∃ n2135 : Int,
 ∃ n2136 : Int,
 ∃ n2137 : Int,
 ∃ p2138 : Option Addr,
 ∃ k2139 : Nat,
 ∃ k2140 : Nat,
 ∃ n2141 : Int,
 ∃ n2142 : Int,
 ∃ n2143 : Int,
 ∃ n2144 : Int,
 ∃ n2145 : Int,
 ∃ n2146 : Int,
 ∃ n2147 : Int,
 ∃ n2148 : Int,
 (Row w1995 ⟨b1958, 0, none⟩ (0 : Nat) [int i64 n2135, int i64 n2136, int i64 n2137, slice p2138 k2139 k2140, int i64 n2141, int i64 n2142, int i64 n2143, int i64 n2144, int i64 n2145, int i64 n2146, int i64 n2147, int i64 n2148]) ∧
 (WrRow w1995 ⟨b17, 0, none⟩ (0 : Nat) [int i64 n2135, int i64 n2136, int i64 n2137, slice p2138 k2139 k2140, int i64 n2141, int i64 n2142, int i64 n2143, int i64 n2144, int i64 n2145, int i64 n2146, int i64 n2147, int i64 n2148]) ∧
 LetW (setRow w1995 ⟨b17, 0, none⟩ (0 : Nat) [int i64 n2135, int i64 n2136, int i64 n2137, slice p2138 k2139 k2140, int i64 n2141, int i64 n2142, int i64 n2143, int i64 n2144, int i64 n2145, int i64 n2146, int i64 n2147, int i64 n2148]) fun w2149 =>
 ∃ n2150 : Int,
 ∃ n2151 : Int,
 ∃ n2152 : Int,
 ∃ p2153 : Option Addr,
 ∃ k2154 : Nat,
 ∃ k2155 : Nat,
 ∃ n2156 : Int,
 ∃ n2157 : Int,
 ∃ n2158 : Int,
 ∃ n2159 : Int,
 ∃ n2160 : Int,
 ∃ n2161 : Int,
 ∃ n2162 : Int,
 ∃ n2163 : Int,
 (Row w2149 ⟨b17, 0, none⟩ (0 : Nat) [int i64 n2150, int i64 n2151, int i64 n2152, slice p2153 k2154 k2155, int i64 n2156, int i64 n2157, int i64 n2158, int i64 n2159, int i64 n2160, int i64 n2161, int i64 n2162, int i64 n2163]) ∧
 R (returned (agg #[int i64 n2150, int i64 n2151, int i64 n2152, slice p2153 k2154 k2155, int i64 n2156, int i64 n2157, int i64 n2158, int i64 n2159, int i64 n2160, int i64 n2161, int i64 n2162, int i64 n2163])) w2149))
theorem rfit_ok (n1 : Int) (n2 : Int) (n3 : Int) (p4 : Option Addr) (k5 : Nat) (k6 : Nat) (n7 : Int) (n8 : Int) (n9 : Int) (n10 : Int) (n11 : Int) (n12 : Int) (n13 : Int) (n14 : Int) (w : World) (R : Ending → World → Prop) (h : rfit n1 n2 n3 p4 k5 k6 n7 n8 n9 n10 n11 n12 n13 n14 w R) : Ca Try.prog 14 #[agg #[int i64 n1, int i64 n2, int i64 n3, slice p4 k5 k6, int i64 n7, int i64 n8, int i64 n9, int i64 n10, int i64 n11, int i64 n12, int i64 n13, int i64 n14]] w R :=
 Ca.of_fvc (c := bodyOf Try.f14) (by kernel_rfl) Try.func14 (by kernel_rfl) [] (Eq.mp (by kernel_rfl) h)

end Go.Proofs.Ytljipmhkpnigkaa
