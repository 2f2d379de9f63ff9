/- The verification conditions of this seat's functions, printed by a program; the kernel holds each against the loaded code. -/
import Derived.Test.YtljipmhkpnigkaaProg
import Derived.KernelRfl
import Derived.Test.YtljipmhkpnigkaaV5
set_option maxRecDepth 100000
namespace Go.Proofs.Ytljipmhkpnigkaa
open Go Go.Vc Go.Proofs Go.Value Go.IntKind Go.Ending
def ktake (b1 : Nat) (n2 : Int) (n3 : Int) (n4 : Int) (n5 : Int) (n6 : Int) (n7 : Int) (n8 : Int) (n9 : Int) (s10 : ByteArray) (s11 : ByteArray) (n12 : Int) (n13 : Int) (s14 : ByteArray) (n15 : Int) (n16 : Int) (n17 : Int) (n18 : Int) (n19 : Int) (n20 : Int) (n21 : Int) (s22 : ByteArray) (s23 : ByteArray) (n24 : Int) (n25 : Int) (p26 : Option Addr) (k27 : Nat) (k28 : Nat) (n29 : Int) (n30 : Int) (n31 : Int) (n32 : Int) (n33 : Int) (w : World) (R : Ending → World → Prop) : Prop :=
 LetA (Obj.cells #[int i64 n2, int i64 n3, int i64 n4, int i64 n5, int i64 n6, int i64 n7, int i64 n8, int i64 n9, string s10, string s11, int i64 n12, int i64 n13, string s14, int i64 n15, int i64 n16, int i64 n17, int i64 n18, int i64 n19, int i64 n20, int i64 n21, string s22, string s23, int i64 n24, int i64 n25, slice p26 k27 k28, int i64 n29, int i64 n30, int i64 n31, int i64 n32] (53 : Nat)) w fun b34 w35 =>
 Ca Try.prog (70 : Nat) #[pointer (some ⟨b1, 0, none⟩)] w35 fun e36 w37 =>
 ∃ b38 : Bool,
 (e36 = returned (bool b38)) ∧
 Br (b38)
 (R (returned (slice none (0 : Nat) (0 : Nat))) w37)
 (∃ I39 : List Value → World → Prop,
 (Ca Try.prog (74 : Nat) #[int i64 n33] w37 fun e40 w41 =>
 ∃ n42 : Int,
 (e40 = returned (int i64 n42)) ∧
 I39 [int i64 n42] w41) ∧
 ∀ n43 : Int,
 ∀ w44 : World,
 (I39 [int i64 n43] w44) →
 ∃ n45 : Int,
 (w44.cell? ⟨b34, 2, none⟩ = some (int i64 n45)) ∧
 ∃ n46 : Int,
 (w44.cell? ⟨b1, 12, none⟩ = some (int i64 n46)) ∧
 Br (n45 == n46)
 (∃ n47 : Int,
 (w44.cell? ⟨b34, 3, none⟩ = some (int i64 n47)) ∧
 ∃ n48 : Int,
 (w44.cell? ⟨b1, 21, none⟩ = some (int i64 n48)) ∧
 Br (n47 == n48)
 (∃ n49 : Int,
 (w44.cell? ⟨b1, 47, none⟩ = some (int i64 n49)) ∧
 ∃ n50 : Int,
 (w44.cell? ⟨b34, 0, none⟩ = some (int i64 n50)) ∧
 Br (n50 == (8 : Int))
 (∃ n51 : Int,
 ∃ p52 : Option Addr,
 ∃ k53 : Nat,
 ∃ k54 : Nat,
 ∃ n55 : Int,
 (Row w44 ⟨b34, 23, none⟩ (0 : Nat) [int i64 n51, slice p52 k53 k54, int i64 n55]) ∧
 Ca Try.prog (21 : Nat) #[agg #[int i64 n51, slice p52 k53 k54, int i64 n55]] w44 fun e56 w57 =>
 ∃ n58 : Int,
 (e56 = returned (int i64 n58)) ∧
 Br (n58 == (0 : Int))
 (∃ n59 : Int,
 (w57.cell? ⟨b34, 23, none⟩ = some (int i64 n59)) ∧
 ∃ n60 : Int,
 (w57.cell? ⟨b1, 13, none⟩ = some (int i64 n60)) ∧
 Br (decide (n59 ≥ n60))
 (∃ n61 : Int,
 ∃ p62 : Option Addr,
 ∃ k63 : Nat,
 ∃ k64 : Nat,
 ∃ n65 : Int,
 (Row w57 ⟨b34, 23, none⟩ (0 : Nat) [int i64 n61, slice p62 k63 k64, int i64 n65]) ∧
 (WrRow w57 ⟨b1, 13, none⟩ (0 : Nat) [int i64 n61, slice p62 k63 k64, int i64 n65]) ∧
 LetW (setRow w57 ⟨b1, 13, none⟩ (0 : Nat) [int i64 n61, slice p62 k63 k64, int i64 n65]) fun w66 =>
 ∃ p67 : Option Addr,
 ∃ k68 : Nat,
 ∃ k69 : Nat,
 (w66.cell? ⟨b34, 24, none⟩ = some (slice p67 k68 k69)) ∧
 RunsV Try.prog (Builtin.append_ #[(30 : Nat), (30 : Nat)] (30 : Nat) #[slice none (0 : Nat) (0 : Nat), slice p67 k68 k69]) w66 fun v70 w71 =>
 ∃ p72 : Option Addr,
 ∃ k73 : Nat,
 ∃ k74 : Nat,
 (v70 = slice p72 k73 k74) ∧
 (Wr w71 ⟨b1, 14, none⟩) ∧
 LetW (w71.setCell ⟨b1, 14, none⟩ (slice p72 k73 k74)) fun w75 =>
 ∃ n76 : Int,
 (w75.cell? ⟨b1, 47, none⟩ = some (int i64 n76)) ∧
 Br (n76 == (1 : Int))
 (Ca Try.prog (73 : Nat) #[pointer (some ⟨b1, 0, none⟩), int i64 n43] w75 fun e77 w78 =>
 ∃ p79 : Option Addr,
 ∃ k80 : Nat,
 ∃ k81 : Nat,
 (e77 = returned (slice p79 k80 k81)) ∧
 R (returned (slice p79 k80 k81)) w78)
 (R (returned (slice none (0 : Nat) (0 : Nat))) w75))
 (∃ n82 : Int,
 (w57.cell? ⟨b34, 0, none⟩ = some (int i64 n82)) ∧
 Br (n82 == (2 : Int))
 (Br (n49 != (0 : Int))
 (∃ n83 : Int,
 ∃ s84 : ByteArray,
 ∃ n85 : Int,
 ∃ n86 : Int,
 (Row w57 ⟨b34, 11, none⟩ (0 : Nat) [int i64 n83, string s84, int i64 n85, int i64 n86]) ∧
 Ca Try.prog (77 : Nat) #[pointer (some ⟨b1, 0, none⟩), agg #[int i64 (1), int i64 (0), int i64 n83, string s84, int i64 n85, int i64 n86]] w57 fun e87 w88 =>
 (e87 = returned (tuple #[])) ∧
 R (returned (slice none (0 : Nat) (0 : Nat))) w88)
 (∃ n89 : Int,
 (w57.cell? ⟨b34, 0, none⟩ = some (int i64 n89)) ∧
 Br (n89 == (3 : Int))
 (Br (n49 != (0 : Int))
 (∃ n90 : Int,
 (w57.cell? ⟨b1, 47, none⟩ = some (int i64 n90)) ∧
 Br (n90 == (2 : Int))
 (∃ n91 : Int,
 (w57.cell? ⟨b34, 4, none⟩ = some (int i64 n91)) ∧
 ∃ n92 : Int,
 (w57.cell? ⟨b1, 22, none⟩ = some (int i64 n92)) ∧
 Br (n91 == n92)
 (∃ n93 : Int,
 ∃ n94 : Int,
 ∃ n95 : Int,
 ∃ n96 : Int,
 ∃ n97 : Int,
 ∃ n98 : Int,
 ∃ n99 : Int,
 ∃ n100 : Int,
 ∃ s101 : ByteArray,
 ∃ s102 : ByteArray,
 ∃ n103 : Int,
 ∃ n104 : Int,
 ∃ s105 : ByteArray,
 ∃ n106 : Int,
 ∃ n107 : Int,
 ∃ n108 : Int,
 ∃ n109 : Int,
 ∃ n110 : Int,
 ∃ n111 : Int,
 ∃ n112 : Int,
 ∃ s113 : ByteArray,
 ∃ s114 : ByteArray,
 ∃ n115 : Int,
 ∃ n116 : Int,
 ∃ p117 : Option Addr,
 ∃ k118 : Nat,
 ∃ k119 : Nat,
 ∃ n120 : Int,
 ∃ n121 : Int,
 ∃ n122 : Int,
 ∃ n123 : Int,
 (Row w57 ⟨b34, 0, none⟩ (0 : Nat) [int i64 n93, int i64 n94, int i64 n95, int i64 n96, int i64 n97, int i64 n98, int i64 n99, int i64 n100, string s101, string s102, int i64 n103, int i64 n104, string s105, int i64 n106, int i64 n107, int i64 n108, int i64 n109, int i64 n110, int i64 n111, int i64 n112, string s113, string s114, int i64 n115, int i64 n116, slice p117 k118 k119, int i64 n120, int i64 n121, int i64 n122, int i64 n123]) ∧
 Ca Try.prog (78 : Nat) #[pointer (some ⟨b1, 0, none⟩), agg #[int i64 n93, int i64 n94, int i64 n95, int i64 n96, int i64 n97, int i64 n98, int i64 n99, int i64 n100, string s101, string s102, int i64 n103, int i64 n104, string s105, int i64 n106, int i64 n107, int i64 n108, int i64 n109, int i64 n110, int i64 n111, int i64 n112, string s113, string s114, int i64 n115, int i64 n116, slice p117 k118 k119, int i64 n120, int i64 n121, int i64 n122, int i64 n123], int i64 n43] w57 fun e124 w125 =>
 ∃ p126 : Option Addr,
 ∃ k127 : Nat,
 ∃ k128 : Nat,
 (e124 = returned (slice p126 k127 k128)) ∧
 R (returned (slice p126 k127 k128)) w125)
 (R (returned (slice none (0 : Nat) (0 : Nat))) w57))
 (R (returned (slice none (0 : Nat) (0 : Nat))) w57))
 (R (returned (slice none (0 : Nat) (0 : Nat))) w57))
 (R (returned (slice none (0 : Nat) (0 : Nat))) w57)))
 (∃ n129 : Int,
 (w57.cell? ⟨b34, 0, none⟩ = some (int i64 n129)) ∧
 Br (n129 == (3 : Int))
 (Br (n49 != (0 : Int))
 (∃ n130 : Int,
 (w57.cell? ⟨b1, 47, none⟩ = some (int i64 n130)) ∧
 Br (n130 == (2 : Int))
 (∃ n131 : Int,
 (w57.cell? ⟨b34, 4, none⟩ = some (int i64 n131)) ∧
 ∃ n132 : Int,
 (w57.cell? ⟨b1, 22, none⟩ = some (int i64 n132)) ∧
 Br (n131 == n132)
 (∃ n133 : Int,
 ∃ n134 : Int,
 ∃ n135 : Int,
 ∃ n136 : Int,
 ∃ n137 : Int,
 ∃ n138 : Int,
 ∃ n139 : Int,
 ∃ n140 : Int,
 ∃ s141 : ByteArray,
 ∃ s142 : ByteArray,
 ∃ n143 : Int,
 ∃ n144 : Int,
 ∃ s145 : ByteArray,
 ∃ n146 : Int,
 ∃ n147 : Int,
 ∃ n148 : Int,
 ∃ n149 : Int,
 ∃ n150 : Int,
 ∃ n151 : Int,
 ∃ n152 : Int,
 ∃ s153 : ByteArray,
 ∃ s154 : ByteArray,
 ∃ n155 : Int,
 ∃ n156 : Int,
 ∃ p157 : Option Addr,
 ∃ k158 : Nat,
 ∃ k159 : Nat,
 ∃ n160 : Int,
 ∃ n161 : Int,
 ∃ n162 : Int,
 ∃ n163 : Int,
 (Row w57 ⟨b34, 0, none⟩ (0 : Nat) [int i64 n133, int i64 n134, int i64 n135, int i64 n136, int i64 n137, int i64 n138, int i64 n139, int i64 n140, string s141, string s142, int i64 n143, int i64 n144, string s145, int i64 n146, int i64 n147, int i64 n148, int i64 n149, int i64 n150, int i64 n151, int i64 n152, string s153, string s154, int i64 n155, int i64 n156, slice p157 k158 k159, int i64 n160, int i64 n161, int i64 n162, int i64 n163]) ∧
 Ca Try.prog (78 : Nat) #[pointer (some ⟨b1, 0, none⟩), agg #[int i64 n133, int i64 n134, int i64 n135, int i64 n136, int i64 n137, int i64 n138, int i64 n139, int i64 n140, string s141, string s142, int i64 n143, int i64 n144, string s145, int i64 n146, int i64 n147, int i64 n148, int i64 n149, int i64 n150, int i64 n151, int i64 n152, string s153, string s154, int i64 n155, int i64 n156, slice p157 k158 k159, int i64 n160, int i64 n161, int i64 n162, int i64 n163], int i64 n43] w57 fun e164 w165 =>
 ∃ p166 : Option Addr,
 ∃ k167 : Nat,
 ∃ k168 : Nat,
 (e164 = returned (slice p166 k167 k168)) ∧
 R (returned (slice p166 k167 k168)) w165)
 (R (returned (slice none (0 : Nat) (0 : Nat))) w57))
 (R (returned (slice none (0 : Nat) (0 : Nat))) w57))
 (R (returned (slice none (0 : Nat) (0 : Nat))) w57))
 (R (returned (slice none (0 : Nat) (0 : Nat))) w57))))
 (∃ n169 : Int,
 (w57.cell? ⟨b34, 0, none⟩ = some (int i64 n169)) ∧
 Br (n169 == (2 : Int))
 (Br (n49 != (0 : Int))
 (∃ n170 : Int,
 ∃ s171 : ByteArray,
 ∃ n172 : Int,
 ∃ n173 : Int,
 (Row w57 ⟨b34, 11, none⟩ (0 : Nat) [int i64 n170, string s171, int i64 n172, int i64 n173]) ∧
 Ca Try.prog (77 : Nat) #[pointer (some ⟨b1, 0, none⟩), agg #[int i64 (1), int i64 (0), int i64 n170, string s171, int i64 n172, int i64 n173]] w57 fun e174 w175 =>
 (e174 = returned (tuple #[])) ∧
 R (returned (slice none (0 : Nat) (0 : Nat))) w175)
 (∃ n176 : Int,
 (w57.cell? ⟨b34, 0, none⟩ = some (int i64 n176)) ∧
 Br (n176 == (3 : Int))
 (Br (n49 != (0 : Int))
 (∃ n177 : Int,
 (w57.cell? ⟨b1, 47, none⟩ = some (int i64 n177)) ∧
 Br (n177 == (2 : Int))
 (∃ n178 : Int,
 (w57.cell? ⟨b34, 4, none⟩ = some (int i64 n178)) ∧
 ∃ n179 : Int,
 (w57.cell? ⟨b1, 22, none⟩ = some (int i64 n179)) ∧
 Br (n178 == n179)
 (∃ n180 : Int,
 ∃ n181 : Int,
 ∃ n182 : Int,
 ∃ n183 : Int,
 ∃ n184 : Int,
 ∃ n185 : Int,
 ∃ n186 : Int,
 ∃ n187 : Int,
 ∃ s188 : ByteArray,
 ∃ s189 : ByteArray,
 ∃ n190 : Int,
 ∃ n191 : Int,
 ∃ s192 : ByteArray,
 ∃ n193 : Int,
 ∃ n194 : Int,
 ∃ n195 : Int,
 ∃ n196 : Int,
 ∃ n197 : Int,
 ∃ n198 : Int,
 ∃ n199 : Int,
 ∃ s200 : ByteArray,
 ∃ s201 : ByteArray,
 ∃ n202 : Int,
 ∃ n203 : Int,
 ∃ p204 : Option Addr,
 ∃ k205 : Nat,
 ∃ k206 : Nat,
 ∃ n207 : Int,
 ∃ n208 : Int,
 ∃ n209 : Int,
 ∃ n210 : Int,
 (Row w57 ⟨b34, 0, none⟩ (0 : Nat) [int i64 n180, int i64 n181, int i64 n182, int i64 n183, int i64 n184, int i64 n185, int i64 n186, int i64 n187, string s188, string s189, int i64 n190, int i64 n191, string s192, int i64 n193, int i64 n194, int i64 n195, int i64 n196, int i64 n197, int i64 n198, int i64 n199, string s200, string s201, int i64 n202, int i64 n203, slice p204 k205 k206, int i64 n207, int i64 n208, int i64 n209, int i64 n210]) ∧
 Ca Try.prog (78 : Nat) #[pointer (some ⟨b1, 0, none⟩), agg #[int i64 n180, int i64 n181, int i64 n182, int i64 n183, int i64 n184, int i64 n185, int i64 n186, int i64 n187, string s188, string s189, int i64 n190, int i64 n191, string s192, int i64 n193, int i64 n194, int i64 n195, int i64 n196, int i64 n197, int i64 n198, int i64 n199, string s200, string s201, int i64 n202, int i64 n203, slice p204 k205 k206, int i64 n207, int i64 n208, int i64 n209, int i64 n210], int i64 n43] w57 fun e211 w212 =>
 ∃ p213 : Option Addr,
 ∃ k214 : Nat,
 ∃ k215 : Nat,
 (e211 = returned (slice p213 k214 k215)) ∧
 R (returned (slice p213 k214 k215)) w212)
 (R (returned (slice none (0 : Nat) (0 : Nat))) w57))
 (R (returned (slice none (0 : Nat) (0 : Nat))) w57))
 (R (returned (slice none (0 : Nat) (0 : Nat))) w57))
 (R (returned (slice none (0 : Nat) (0 : Nat))) w57)))
 (∃ n216 : Int,
 (w57.cell? ⟨b34, 0, none⟩ = some (int i64 n216)) ∧
 Br (n216 == (3 : Int))
 (Br (n49 != (0 : Int))
 (∃ n217 : Int,
 (w57.cell? ⟨b1, 47, none⟩ = some (int i64 n217)) ∧
 Br (n217 == (2 : Int))
 (∃ n218 : Int,
 (w57.cell? ⟨b34, 4, none⟩ = some (int i64 n218)) ∧
 ∃ n219 : Int,
 (w57.cell? ⟨b1, 22, none⟩ = some (int i64 n219)) ∧
 Br (n218 == n219)
 (∃ n220 : Int,
 ∃ n221 : Int,
 ∃ n222 : Int,
 ∃ n223 : Int,
 ∃ n224 : Int,
 ∃ n225 : Int,
 ∃ n226 : Int,
 ∃ n227 : Int,
 ∃ s228 : ByteArray,
 ∃ s229 : ByteArray,
 ∃ n230 : Int,
 ∃ n231 : Int,
 ∃ s232 : ByteArray,
 ∃ n233 : Int,
 ∃ n234 : Int,
 ∃ n235 : Int,
 ∃ n236 : Int,
 ∃ n237 : Int,
 ∃ n238 : Int,
 ∃ n239 : Int,
 ∃ s240 : ByteArray,
 ∃ s241 : ByteArray,
 ∃ n242 : Int,
 ∃ n243 : Int,
 ∃ p244 : Option Addr,
 ∃ k245 : Nat,
 ∃ k246 : Nat,
 ∃ n247 : Int,
 ∃ n248 : Int,
 ∃ n249 : Int,
 ∃ n250 : Int,
 (Row w57 ⟨b34, 0, none⟩ (0 : Nat) [int i64 n220, int i64 n221, int i64 n222, int i64 n223, int i64 n224, int i64 n225, int i64 n226, int i64 n227, string s228, string s229, int i64 n230, int i64 n231, string s232, int i64 n233, int i64 n234, int i64 n235, int i64 n236, int i64 n237, int i64 n238, int i64 n239, string s240, string s241, int i64 n242, int i64 n243, slice p244 k245 k246, int i64 n247, int i64 n248, int i64 n249, int i64 n250]) ∧
 Ca Try.prog (78 : Nat) #[pointer (some ⟨b1, 0, none⟩), agg #[int i64 n220, int i64 n221, int i64 n222, int i64 n223, int i64 n224, int i64 n225, int i64 n226, int i64 n227, string s228, string s229, int i64 n230, int i64 n231, string s232, int i64 n233, int i64 n234, int i64 n235, int i64 n236, int i64 n237, int i64 n238, int i64 n239, string s240, string s241, int i64 n242, int i64 n243, slice p244 k245 k246, int i64 n247, int i64 n248, int i64 n249, int i64 n250], int i64 n43] w57 fun e251 w252 =>
 ∃ p253 : Option Addr,
 ∃ k254 : Nat,
 ∃ k255 : Nat,
 (e251 = returned (slice p253 k254 k255)) ∧
 R (returned (slice p253 k254 k255)) w252)
 (R (returned (slice none (0 : Nat) (0 : Nat))) w57))
 (R (returned (slice none (0 : Nat) (0 : Nat))) w57))
 (R (returned (slice none (0 : Nat) (0 : Nat))) w57))
 (R (returned (slice none (0 : Nat) (0 : Nat))) w57))))
 (∃ n256 : Int,
 (w44.cell? ⟨b34, 0, none⟩ = some (int i64 n256)) ∧
 Br (n256 == (2 : Int))
 (Br (n49 != (0 : Int))
 (∃ n257 : Int,
 ∃ s258 : ByteArray,
 ∃ n259 : Int,
 ∃ n260 : Int,
 (Row w44 ⟨b34, 11, none⟩ (0 : Nat) [int i64 n257, string s258, int i64 n259, int i64 n260]) ∧
 Ca Try.prog (77 : Nat) #[pointer (some ⟨b1, 0, none⟩), agg #[int i64 (1), int i64 (0), int i64 n257, string s258, int i64 n259, int i64 n260]] w44 fun e261 w262 =>
 (e261 = returned (tuple #[])) ∧
 R (returned (slice none (0 : Nat) (0 : Nat))) w262)
 (∃ n263 : Int,
 (w44.cell? ⟨b34, 0, none⟩ = some (int i64 n263)) ∧
 Br (n263 == (3 : Int))
 (Br (n49 != (0 : Int))
 (∃ n264 : Int,
 (w44.cell? ⟨b1, 47, none⟩ = some (int i64 n264)) ∧
 Br (n264 == (2 : Int))
 (∃ n265 : Int,
 (w44.cell? ⟨b34, 4, none⟩ = some (int i64 n265)) ∧
 ∃ n266 : Int,
 (w44.cell? ⟨b1, 22, none⟩ = some (int i64 n266)) ∧
 Br (n265 == n266)
 (∃ n267 : Int,
 ∃ n268 : Int,
 ∃ n269 : Int,
 ∃ n270 : Int,
 ∃ n271 : Int,
 ∃ n272 : Int,
 ∃ n273 : Int,
 ∃ n274 : Int,
 ∃ s275 : ByteArray,
 ∃ s276 : ByteArray,
 ∃ n277 : Int,
 ∃ n278 : Int,
 ∃ s279 : ByteArray,
 ∃ n280 : Int,
 ∃ n281 : Int,
 ∃ n282 : Int,
 ∃ n283 : Int,
 ∃ n284 : Int,
 ∃ n285 : Int,
 ∃ n286 : Int,
 ∃ s287 : ByteArray,
 ∃ s288 : ByteArray,
 ∃ n289 : Int,
 ∃ n290 : Int,
 ∃ p291 : Option Addr,
 ∃ k292 : Nat,
 ∃ k293 : Nat,
 ∃ n294 : Int,
 ∃ n295 : Int,
 ∃ n296 : Int,
 ∃ n297 : Int,
 (Row w44 ⟨b34, 0, none⟩ (0 : Nat) [int i64 n267, int i64 n268, int i64 n269, int i64 n270, int i64 n271, int i64 n272, int i64 n273, int i64 n274, string s275, string s276, int i64 n277, int i64 n278, string s279, int i64 n280, int i64 n281, int i64 n282, int i64 n283, int i64 n284, int i64 n285, int i64 n286, string s287, string s288, int i64 n289, int i64 n290, slice p291 k292 k293, int i64 n294, int i64 n295, int i64 n296, int i64 n297]) ∧
 Ca Try.prog (78 : Nat) #[pointer (some ⟨b1, 0, none⟩), agg #[int i64 n267, int i64 n268, int i64 n269, int i64 n270, int i64 n271, int i64 n272, int i64 n273, int i64 n274, string s275, string s276, int i64 n277, int i64 n278, string s279, int i64 n280, int i64 n281, int i64 n282, int i64 n283, int i64 n284, int i64 n285, int i64 n286, string s287, string s288, int i64 n289, int i64 n290, slice p291 k292 k293, int i64 n294, int i64 n295, int i64 n296, int i64 n297], int i64 n43] w44 fun e298 w299 =>
 ∃ p300 : Option Addr,
 ∃ k301 : Nat,
 ∃ k302 : Nat,
 (e298 = returned (slice p300 k301 k302)) ∧
 R (returned (slice p300 k301 k302)) w299)
 (R (returned (slice none (0 : Nat) (0 : Nat))) w44))
 (R (returned (slice none (0 : Nat) (0 : Nat))) w44))
 (R (returned (slice none (0 : Nat) (0 : Nat))) w44))
 (R (returned (slice none (0 : Nat) (0 : Nat))) w44)))
 (∃ n303 : Int,
 (w44.cell? ⟨b34, 0, none⟩ = some (int i64 n303)) ∧
 Br (n303 == (3 : Int))
 (Br (n49 != (0 : Int))
 (∃ n304 : Int,
 (w44.cell? ⟨b1, 47, none⟩ = some (int i64 n304)) ∧
 Br (n304 == (2 : Int))
 (∃ n305 : Int,
 (w44.cell? ⟨b34, 4, none⟩ = some (int i64 n305)) ∧
 ∃ n306 : Int,
 (w44.cell? ⟨b1, 22, none⟩ = some (int i64 n306)) ∧
 Br (n305 == n306)
 (∃ n307 : Int,
 ∃ n308 : Int,
 ∃ n309 : Int,
 ∃ n310 : Int,
 ∃ n311 : Int,
 ∃ n312 : Int,
 ∃ n313 : Int,
 ∃ n314 : Int,
 ∃ s315 : ByteArray,
 ∃ s316 : ByteArray,
 ∃ n317 : Int,
 ∃ n318 : Int,
 ∃ s319 : ByteArray,
 ∃ n320 : Int,
 ∃ n321 : Int,
 ∃ n322 : Int,
 ∃ n323 : Int,
 ∃ n324 : Int,
 ∃ n325 : Int,
 ∃ n326 : Int,
 ∃ s327 : ByteArray,
 ∃ s328 : ByteArray,
 ∃ n329 : Int,
 ∃ n330 : Int,
 ∃ p331 : Option Addr,
 ∃ k332 : Nat,
 ∃ k333 : Nat,
 ∃ n334 : Int,
 ∃ n335 : Int,
 ∃ n336 : Int,
 ∃ n337 : Int,
 (Row w44 ⟨b34, 0, none⟩ (0 : Nat) [int i64 n307, int i64 n308, int i64 n309, int i64 n310, int i64 n311, int i64 n312, int i64 n313, int i64 n314, string s315, string s316, int i64 n317, int i64 n318, string s319, int i64 n320, int i64 n321, int i64 n322, int i64 n323, int i64 n324, int i64 n325, int i64 n326, string s327, string s328, int i64 n329, int i64 n330, slice p331 k332 k333, int i64 n334, int i64 n335, int i64 n336, int i64 n337]) ∧
 Ca Try.prog (78 : Nat) #[pointer (some ⟨b1, 0, none⟩), agg #[int i64 n307, int i64 n308, int i64 n309, int i64 n310, int i64 n311, int i64 n312, int i64 n313, int i64 n314, string s315, string s316, int i64 n317, int i64 n318, string s319, int i64 n320, int i64 n321, int i64 n322, int i64 n323, int i64 n324, int i64 n325, int i64 n326, string s327, string s328, int i64 n329, int i64 n330, slice p331 k332 k333, int i64 n334, int i64 n335, int i64 n336, int i64 n337], int i64 n43] w44 fun e338 w339 =>
 ∃ p340 : Option Addr,
 ∃ k341 : Nat,
 ∃ k342 : Nat,
 (e338 = returned (slice p340 k341 k342)) ∧
 R (returned (slice p340 k341 k342)) w339)
 (R (returned (slice none (0 : Nat) (0 : Nat))) w44))
 (R (returned (slice none (0 : Nat) (0 : Nat))) w44))
 (R (returned (slice none (0 : Nat) (0 : Nat))) w44))
 (R (returned (slice none (0 : Nat) (0 : Nat))) w44))))
 (∃ n343 : Int,
 (w44.cell? ⟨b34, 0, none⟩ = some (int i64 n343)) ∧
 Br (n343 == (8 : Int))
 (∃ n344 : Int,
 ∃ p345 : Option Addr,
 ∃ k346 : Nat,
 ∃ k347 : Nat,
 ∃ n348 : Int,
 (Row w44 ⟨b34, 23, none⟩ (0 : Nat) [int i64 n344, slice p345 k346 k347, int i64 n348]) ∧
 Ca Try.prog (21 : Nat) #[agg #[int i64 n344, slice p345 k346 k347, int i64 n348]] w44 fun e349 w350 =>
 ∃ n351 : Int,
 (e349 = returned (int i64 n351)) ∧
 Br (n351 == (0 : Int))
 (∃ n352 : Int,
 (w350.cell? ⟨b34, 23, none⟩ = some (int i64 n352)) ∧
 ∃ n353 : Int,
 (w350.cell? ⟨b1, 13, none⟩ = some (int i64 n353)) ∧
 Br (decide (n352 ≥ n353))
 (∃ n354 : Int,
 ∃ p355 : Option Addr,
 ∃ k356 : Nat,
 ∃ k357 : Nat,
 ∃ n358 : Int,
 (Row w350 ⟨b34, 23, none⟩ (0 : Nat) [int i64 n354, slice p355 k356 k357, int i64 n358]) ∧
 (WrRow w350 ⟨b1, 13, none⟩ (0 : Nat) [int i64 n354, slice p355 k356 k357, int i64 n358]) ∧
 LetW (setRow w350 ⟨b1, 13, none⟩ (0 : Nat) [int i64 n354, slice p355 k356 k357, int i64 n358]) fun w359 =>
 ∃ p360 : Option Addr,
 ∃ k361 : Nat,
 ∃ k362 : Nat,
 (w359.cell? ⟨b34, 24, none⟩ = some (slice p360 k361 k362)) ∧
 RunsV Try.prog (Builtin.append_ #[(30 : Nat), (30 : Nat)] (30 : Nat) #[slice none (0 : Nat) (0 : Nat), slice p360 k361 k362]) w359 fun v363 w364 =>
 ∃ p365 : Option Addr,
 ∃ k366 : Nat,
 ∃ k367 : Nat,
 (v363 = slice p365 k366 k367) ∧
 (Wr w364 ⟨b1, 14, none⟩) ∧
 LetW (w364.setCell ⟨b1, 14, none⟩ (slice p365 k366 k367)) fun w368 =>
 ∃ n369 : Int,
 (w368.cell? ⟨b1, 47, none⟩ = some (int i64 n369)) ∧
 Br (n369 == (1 : Int))
 (Ca Try.prog (73 : Nat) #[pointer (some ⟨b1, 0, none⟩), int i64 n43] w368 fun e370 w371 =>
 ∃ p372 : Option Addr,
 ∃ k373 : Nat,
 ∃ k374 : Nat,
 (e370 = returned (slice p372 k373 k374)) ∧
 R (returned (slice p372 k373 k374)) w371)
 (R (returned (slice none (0 : Nat) (0 : Nat))) w368))
 (∃ n375 : Int,
 (w350.cell? ⟨b34, 0, none⟩ = some (int i64 n375)) ∧
 Br (n375 == (2 : Int))
 (∃ n376 : Int,
 (w350.cell? ⟨b34, 0, none⟩ = some (int i64 n376)) ∧
 Br (n376 == (3 : Int))
 (R (returned (slice none (0 : Nat) (0 : Nat))) w350)
 (R (returned (slice none (0 : Nat) (0 : Nat))) w350))
 (∃ n377 : Int,
 (w350.cell? ⟨b34, 0, none⟩ = some (int i64 n377)) ∧
 Br (n377 == (3 : Int))
 (R (returned (slice none (0 : Nat) (0 : Nat))) w350)
 (R (returned (slice none (0 : Nat) (0 : Nat))) w350))))
 (∃ n378 : Int,
 (w350.cell? ⟨b34, 0, none⟩ = some (int i64 n378)) ∧
 Br (n378 == (2 : Int))
 (∃ n379 : Int,
 (w350.cell? ⟨b34, 0, none⟩ = some (int i64 n379)) ∧
 Br (n379 == (3 : Int))
 (R (returned (slice none (0 : Nat) (0 : Nat))) w350)
 (R (returned (slice none (0 : Nat) (0 : Nat))) w350))
 (∃ n380 : Int,
 (w350.cell? ⟨b34, 0, none⟩ = some (int i64 n380)) ∧
 Br (n380 == (3 : Int))
 (R (returned (slice none (0 : Nat) (0 : Nat))) w350)
 (R (returned (slice none (0 : Nat) (0 : Nat))) w350))))
 (∃ n381 : Int,
 (w44.cell? ⟨b34, 0, none⟩ = some (int i64 n381)) ∧
 Br (n381 == (2 : Int))
 (∃ n382 : Int,
 (w44.cell? ⟨b34, 0, none⟩ = some (int i64 n382)) ∧
 Br (n382 == (3 : Int))
 (R (returned (slice none (0 : Nat) (0 : Nat))) w44)
 (R (returned (slice none (0 : Nat) (0 : Nat))) w44))
 (∃ n383 : Int,
 (w44.cell? ⟨b34, 0, none⟩ = some (int i64 n383)) ∧
 Br (n383 == (3 : Int))
 (R (returned (slice none (0 : Nat) (0 : Nat))) w44)
 (R (returned (slice none (0 : Nat) (0 : Nat))) w44)))))
 (∃ n384 : Int,
 (w44.cell? ⟨b34, 0, none⟩ = some (int i64 n384)) ∧
 Br (n384 == (8 : Int))
 (∃ n385 : Int,
 ∃ p386 : Option Addr,
 ∃ k387 : Nat,
 ∃ k388 : Nat,
 ∃ n389 : Int,
 (Row w44 ⟨b34, 23, none⟩ (0 : Nat) [int i64 n385, slice p386 k387 k388, int i64 n389]) ∧
 Ca Try.prog (21 : Nat) #[agg #[int i64 n385, slice p386 k387 k388, int i64 n389]] w44 fun e390 w391 =>
 ∃ n392 : Int,
 (e390 = returned (int i64 n392)) ∧
 Br (n392 == (0 : Int))
 (∃ n393 : Int,
 (w391.cell? ⟨b34, 23, none⟩ = some (int i64 n393)) ∧
 ∃ n394 : Int,
 (w391.cell? ⟨b1, 13, none⟩ = some (int i64 n394)) ∧
 Br (decide (n393 ≥ n394))
 (∃ n395 : Int,
 ∃ p396 : Option Addr,
 ∃ k397 : Nat,
 ∃ k398 : Nat,
 ∃ n399 : Int,
 (Row w391 ⟨b34, 23, none⟩ (0 : Nat) [int i64 n395, slice p396 k397 k398, int i64 n399]) ∧
 (WrRow w391 ⟨b1, 13, none⟩ (0 : Nat) [int i64 n395, slice p396 k397 k398, int i64 n399]) ∧
 LetW (setRow w391 ⟨b1, 13, none⟩ (0 : Nat) [int i64 n395, slice p396 k397 k398, int i64 n399]) fun w400 =>
 ∃ p401 : Option Addr,
 ∃ k402 : Nat,
 ∃ k403 : Nat,
 (w400.cell? ⟨b34, 24, none⟩ = some (slice p401 k402 k403)) ∧
 RunsV Try.prog (Builtin.append_ #[(30 : Nat), (30 : Nat)] (30 : Nat) #[slice none (0 : Nat) (0 : Nat), slice p401 k402 k403]) w400 fun v404 w405 =>
 ∃ p406 : Option Addr,
 ∃ k407 : Nat,
 ∃ k408 : Nat,
 (v404 = slice p406 k407 k408) ∧
 (Wr w405 ⟨b1, 14, none⟩) ∧
 LetW (w405.setCell ⟨b1, 14, none⟩ (slice p406 k407 k408)) fun w409 =>
 ∃ n410 : Int,
 (w409.cell? ⟨b1, 47, none⟩ = some (int i64 n410)) ∧
 Br (n410 == (1 : Int))
 (Ca Try.prog (73 : Nat) #[pointer (some ⟨b1, 0, none⟩), int i64 n43] w409 fun e411 w412 =>
 ∃ p413 : Option Addr,
 ∃ k414 : Nat,
 ∃ k415 : Nat,
 (e411 = returned (slice p413 k414 k415)) ∧
 R (returned (slice p413 k414 k415)) w412)
 (R (returned (slice none (0 : Nat) (0 : Nat))) w409))
 (∃ n416 : Int,
 (w391.cell? ⟨b34, 0, none⟩ = some (int i64 n416)) ∧
 Br (n416 == (2 : Int))
 (∃ n417 : Int,
 (w391.cell? ⟨b34, 0, none⟩ = some (int i64 n417)) ∧
 Br (n417 == (3 : Int))
 (R (returned (slice none (0 : Nat) (0 : Nat))) w391)
 (R (returned (slice none (0 : Nat) (0 : Nat))) w391))
 (∃ n418 : Int,
 (w391.cell? ⟨b34, 0, none⟩ = some (int i64 n418)) ∧
 Br (n418 == (3 : Int))
 (R (returned (slice none (0 : Nat) (0 : Nat))) w391)
 (R (returned (slice none (0 : Nat) (0 : Nat))) w391))))
 (∃ n419 : Int,
 (w391.cell? ⟨b34, 0, none⟩ = some (int i64 n419)) ∧
 Br (n419 == (2 : Int))
 (∃ n420 : Int,
 (w391.cell? ⟨b34, 0, none⟩ = some (int i64 n420)) ∧
 Br (n420 == (3 : Int))
 (R (returned (slice none (0 : Nat) (0 : Nat))) w391)
 (R (returned (slice none (0 : Nat) (0 : Nat))) w391))
 (∃ n421 : Int,
 (w391.cell? ⟨b34, 0, none⟩ = some (int i64 n421)) ∧
 Br (n421 == (3 : Int))
 (R (returned (slice none (0 : Nat) (0 : Nat))) w391)
 (R (returned (slice none (0 : Nat) (0 : Nat))) w391))))
 (∃ n422 : Int,
 (w44.cell? ⟨b34, 0, none⟩ = some (int i64 n422)) ∧
 Br (n422 == (2 : Int))
 (∃ n423 : Int,
 (w44.cell? ⟨b34, 0, none⟩ = some (int i64 n423)) ∧
 Br (n423 == (3 : Int))
 (R (returned (slice none (0 : Nat) (0 : Nat))) w44)
 (R (returned (slice none (0 : Nat) (0 : Nat))) w44))
 (∃ n424 : Int,
 (w44.cell? ⟨b34, 0, none⟩ = some (int i64 n424)) ∧
 Br (n424 == (3 : Int))
 (R (returned (slice none (0 : Nat) (0 : Nat))) w44)
 (R (returned (slice none (0 : Nat) (0 : Nat))) w44)))))
theorem ktake_ok (b1 : Nat) (n2 : Int) (n3 : Int) (n4 : Int) (n5 : Int) (n6 : Int) (n7 : Int) (n8 : Int) (n9 : Int) (s10 : ByteArray) (s11 : ByteArray) (n12 : Int) (n13 : Int) (s14 : ByteArray) (n15 : Int) (n16 : Int) (n17 : Int) (n18 : Int) (n19 : Int) (n20 : Int) (n21 : Int) (s22 : ByteArray) (s23 : ByteArray) (n24 : Int) (n25 : Int) (p26 : Option Addr) (k27 : Nat) (k28 : Nat) (n29 : Int) (n30 : Int) (n31 : Int) (n32 : Int) (n33 : Int) (w : World) (R : Ending → World → Prop) (h : ktake b1 n2 n3 n4 n5 n6 n7 n8 n9 s10 s11 n12 n13 s14 n15 n16 n17 n18 n19 n20 n21 s22 s23 n24 n25 p26 k27 k28 n29 n30 n31 n32 n33 w R) : Ca Try.prog 40 #[pointer (some ⟨b1, 0, none⟩), agg #[int i64 n2, int i64 n3, int i64 n4, int i64 n5, int i64 n6, int i64 n7, int i64 n8, int i64 n9, string s10, string s11, int i64 n12, int i64 n13, string s14, int i64 n15, int i64 n16, int i64 n17, int i64 n18, int i64 n19, int i64 n20, int i64 n21, string s22, string s23, int i64 n24, int i64 n25, slice p26 k27 k28, int i64 n29, int i64 n30, int i64 n31, int i64 n32], int i64 n33] w R :=
 Ca.of_fvc (c := bodyOf Try.f40) (by kernel_rfl) Try.func40 (by kernel_rfl) [4] (Eq.mp (by kernel_rfl) h)

end Go.Proofs.Ytljipmhkpnigkaa
