/- The verification conditions of this seat's functions, printed by a program; the kernel holds each against the loaded code. -/
import Derived.Test.YtljipmhkpnigkaaProg
import Derived.KernelRfl
import Derived.Test.YtljipmhkpnigkaaV5
set_option maxRecDepth 100000
namespace Go.Proofs.Ytljipmhkpnigkaa
open Go Go.Vc Go.Proofs Go.Value Go.IntKind Go.Ending
def lawKOnce (n1 : Int) (n2 : Int) (n3 : Int) (p4 : Option Addr) (k5 : Nat) (k6 : Nat) (n7 : Int) (n8 : Int) (n9 : Int) (n10 : Int) (n11 : Int) (n12 : Int) (n13 : Int) (n14 : Int) (n15 : Int) (p16 : Option Addr) (k17 : Nat) (k18 : Nat) (w : World) (R : Ending → World → Prop) : Prop :=
 LetA (Obj.cells #[int i64 n1, int i64 n2, int i64 n3, slice p4 k5 k6, int i64 n7, int i64 n8, int i64 n9, int i64 n10, int i64 n11, int i64 n12, int i64 n13, int i64 n14] (24 : Nat)) w fun b19 w20 =>
 ∃ p21 : Option Addr,
 ∃ k22 : Nat,
 ∃ k23 : Nat,
 (w20.cell? ⟨b19, 3, none⟩ = some (slice p21 k22 k23)) ∧
 Br (decide ((↑k22 : Int) > (20 : Int)))
 (Ca Try.prog (37 : Nat) #[] w20 fun e24 w25 =>
 ∃ b26 : Bool,
 (e24 = returned (bool b26)) ∧
 R (returned (bool b26)) w25)
 (Ca Try.prog (36 : Nat) #[slice p16 k17 k18, int i64 (100)] w20 fun e27 w28 =>
 ∃ b29 : Bool,
 (e27 = returned (bool b29)) ∧
 Br (b29)
 (Ca Try.prog (37 : Nat) #[] w28 fun e30 w31 =>
 ∃ b32 : Bool,
 (e30 = returned (bool b32)) ∧
 R (returned (bool b32)) w31)
 (∃ n33 : Int,
 ∃ n34 : Int,
 ∃ n35 : Int,
 ∃ p36 : Option Addr,
 ∃ k37 : Nat,
 ∃ k38 : Nat,
 ∃ n39 : Int,
 ∃ n40 : Int,
 ∃ n41 : Int,
 ∃ n42 : Int,
 ∃ n43 : Int,
 ∃ n44 : Int,
 ∃ n45 : Int,
 ∃ n46 : Int,
 (Row w28 ⟨b19, 0, none⟩ (0 : Nat) [int i64 n33, int i64 n34, int i64 n35, slice p36 k37 k38, int i64 n39, int i64 n40, int i64 n41, int i64 n42, int i64 n43, int i64 n44, int i64 n45, int i64 n46]) ∧
 Ca Try.prog (14 : Nat) #[agg #[int i64 n33, int i64 n34, int i64 n35, slice p36 k37 k38, int i64 n39, int i64 n40, int i64 n41, int i64 n42, int i64 n43, int i64 n44, int i64 n45, int i64 n46]] w28 fun e47 w48 =>
 ∃ n49 : Int,
 ∃ n50 : Int,
 ∃ n51 : Int,
 ∃ p52 : Option Addr,
 ∃ k53 : Nat,
 ∃ k54 : Nat,
 ∃ n55 : Int,
 ∃ n56 : Int,
 ∃ n57 : Int,
 ∃ n58 : Int,
 ∃ n59 : Int,
 ∃ n60 : Int,
 ∃ n61 : Int,
 ∃ n62 : Int,
 (e47 = returned (agg #[int i64 n49, int i64 n50, int i64 n51, slice p52 k53 k54, int i64 n55, int i64 n56, int i64 n57, int i64 n58, int i64 n59, int i64 n60, int i64 n61, int i64 n62])) ∧
 (WrRow w48 ⟨b19, 0, none⟩ (0 : Nat) [int i64 n49, int i64 n50, int i64 n51, slice p52 k53 k54, int i64 n55, int i64 n56, int i64 n57, int i64 n58, int i64 n59, int i64 n60, int i64 n61, int i64 n62]) ∧
 LetW (setRow w48 ⟨b19, 0, none⟩ (0 : Nat) [int i64 n49, int i64 n50, int i64 n51, slice p52 k53 k54, int i64 n55, int i64 n56, int i64 n57, int i64 n58, int i64 n59, int i64 n60, int i64 n61, int i64 n62]) fun w63 =>
 LetI (i64.wrap n15) fun n64 =>
 ∃ n65 : Int,
 (w63.cell? ⟨b19, 2, none⟩ = some (int i64 n65)) ∧
 (n65 ≠ (0 : Int)) ∧
 LetI (n64.tmod n65) fun n66 =>
 ∃ n67 : Int,
 ∃ n68 : Int,
 ∃ n69 : Int,
 ∃ p70 : Option Addr,
 ∃ k71 : Nat,
 ∃ k72 : Nat,
 ∃ n73 : Int,
 ∃ n74 : Int,
 ∃ n75 : Int,
 ∃ n76 : Int,
 ∃ n77 : Int,
 ∃ n78 : Int,
 ∃ n79 : Int,
 ∃ n80 : Int,
 (Row w63 ⟨b19, 0, none⟩ (0 : Nat) [int i64 n67, int i64 n68, int i64 n69, slice p70 k71 k72, int i64 n73, int i64 n74, int i64 n75, int i64 n76, int i64 n77, int i64 n78, int i64 n79, int i64 n80]) ∧
 Ca Try.prog (45 : Nat) #[agg #[int i64 n67, int i64 n68, int i64 n69, slice p70 k71 k72, int i64 n73, int i64 n74, int i64 n75, int i64 n76, int i64 n77, int i64 n78, int i64 n79, int i64 n80], int i64 n66] w63 fun e81 w82 =>
 ∃ p83 : Option Addr,
 ∃ n84 : Int,
 (e81 = returned (tuple #[pointer p83, int i64 n84])) ∧
 Br (n84 != (0 : Int))
 (R (returned (bool false)) w82)
 (∃ I85 : Nat → List Value → World → Prop,
 (∃ k86 : Nat,
 I85 k86 [bool false, int i64 (0), int i64 (0), int i64 (0), int i64 (0), int i64 (0), int i64 (0)] w82) ∧
 ∀ b87 : Bool,
 ∀ n88 : Int,
 ∀ n89 : Int,
 ∀ n90 : Int,
 ∀ n91 : Int,
 ∀ n92 : Int,
 ∀ n93 : Int,
 ∀ k94 : Nat,
 ∀ w95 : World,
 (I85 k94 [bool b87, int i64 n88, int i64 n89, int i64 n90, int i64 n91, int i64 n92, int i64 n93] w95) →
 Br (decide (n93 < (↑k17 : Int)))
 (NilOk p16 fun a96 =>
 ((
 (0 : Int) ≤ n93) ∧
 n93 < (↑k17 : Int)) ∧
 ∃ n97 : Int,
 ∃ n98 : Int,
 ∃ n99 : Int,
 ∃ n100 : Int,
 ∃ s101 : ByteArray,
 ∃ s102 : ByteArray,
 ∃ n103 : Int,
 ∃ n104 : Int,
 ∃ n105 : Int,
 ∃ n106 : Int,
 ∃ n107 : Int,
 ∃ n108 : Int,
 ∃ n109 : Int,
 ∃ n110 : Int,
 ∃ n111 : Int,
 ∃ s112 : ByteArray,
 ∃ s113 : ByteArray,
 ∃ n114 : Int,
 ∃ n115 : Int,
 ∃ s116 : ByteArray,
 ∃ n117 : Int,
 ∃ n118 : Int,
 ∃ n119 : Int,
 ∃ n120 : Int,
 ∃ n121 : Int,
 ∃ n122 : Int,
 ∃ n123 : Int,
 ∃ s124 : ByteArray,
 ∃ s125 : ByteArray,
 ∃ n126 : Int,
 ∃ n127 : Int,
 ∃ p128 : Option Addr,
 ∃ k129 : Nat,
 ∃ k130 : Nat,
 ∃ n131 : Int,
 ∃ n132 : Int,
 ∃ n133 : Int,
 ∃ n134 : Int,
 ∃ n135 : Int,
 ∃ n136 : Int,
 ∃ n137 : Int,
 (Row w95 (a96.add (n93.toNat * (39 : Nat))) (0 : Nat) [int u8 n97, int u8 n98, int u8 n99, int i64 n100, string s101, string s102, int i64 n103, int i64 n104, int i64 n105, int i64 n106, int i64 n107, int i64 n108, int i64 n109, int i64 n110, int i64 n111, string s112, string s113, int i64 n114, int i64 n115, string s116, int i64 n117, int i64 n118, int i64 n119, int i64 n120, int i64 n121, int i64 n122, int i64 n123, string s124, string s125, int i64 n126, int i64 n127, slice p128 k129 k130, int i64 n131, int i64 n132, int i64 n133, int i64 n134, int i64 n135, int i64 n136, int i64 n137]) ∧
 LetA (Obj.cells #[int u8 (0 : Int), int u8 (0 : Int), int u8 (0 : Int), int i64 (0), string ⟨#[]⟩, string ⟨#[]⟩, int i64 (0), int i64 (0), int i64 (0), int i64 (0), int i64 (0), int i64 (0), int i64 (0), int i64 (0), int i64 (0), string ⟨#[]⟩, string ⟨#[]⟩, int i64 (0), int i64 (0), string ⟨#[]⟩, int i64 (0), int i64 (0), int i64 (0), int i64 (0), int i64 (0), int i64 (0), int i64 (0), string ⟨#[]⟩, string ⟨#[]⟩, int i64 (0), int i64 (0), slice none (0 : Nat) (0 : Nat), int i64 (0), int i64 (0), int i64 (0), int i64 (0), int i64 (0), int i64 (0), int i64 (0)] (74 : Nat)) w95 fun b138 w139 =>
 (WrRow w139 ⟨b138, 0, none⟩ (0 : Nat) [int u8 n97, int u8 n98, int u8 n99, int i64 n100, string s101, string s102, int i64 n103, int i64 n104, int i64 n105, int i64 n106, int i64 n107, int i64 n108, int i64 n109, int i64 n110, int i64 n111, string s112, string s113, int i64 n114, int i64 n115, string s116, int i64 n117, int i64 n118, int i64 n119, int i64 n120, int i64 n121, int i64 n122, int i64 n123, string s124, string s125, int i64 n126, int i64 n127, slice p128 k129 k130, int i64 n131, int i64 n132, int i64 n133, int i64 n134, int i64 n135, int i64 n136, int i64 n137]) ∧
 LetW (setRow w139 ⟨b138, 0, none⟩ (0 : Nat) [int u8 n97, int u8 n98, int u8 n99, int i64 n100, string s101, string s102, int i64 n103, int i64 n104, int i64 n105, int i64 n106, int i64 n107, int i64 n108, int i64 n109, int i64 n110, int i64 n111, string s112, string s113, int i64 n114, int i64 n115, string s116, int i64 n117, int i64 n118, int i64 n119, int i64 n120, int i64 n121, int i64 n122, int i64 n123, string s124, string s125, int i64 n126, int i64 n127, slice p128 k129 k130, int i64 n131, int i64 n132, int i64 n133, int i64 n134, int i64 n135, int i64 n136, int i64 n137]) fun w140 =>
 ∃ n141 : Int,
 (w140.cell? ⟨b138, 1, none⟩ = some (int u8 n141)) ∧
 LetI (i64.wrap n141) fun n142 =>
 ∃ n143 : Int,
 (w140.cell? ⟨b138, 2, none⟩ = some (int u8 n143)) ∧
 LetI (i64.wrap n143) fun n144 =>
 Ca Try.prog (39 : Nat) #[pointer p83] w140 fun e145 w146 =>
 ∃ n147 : Int,
 ∃ n148 : Int,
 ∃ n149 : Int,
 ∃ s150 : ByteArray,
 ∃ n151 : Int,
 ∃ n152 : Int,
 ∃ b153 : Bool,
 (e145 = returned (tuple #[agg #[int i64 n147, int i64 n148, int i64 n149, string s150, int i64 n151, int i64 n152], bool b153])) ∧
 LetA (Obj.cells #[int i64 (0), int i64 (0), int i64 (0), string ⟨#[]⟩, int i64 (0), int i64 (0)] (80 : Nat)) w146 fun b154 w155 =>
 (WrRow w155 ⟨b154, 0, none⟩ (0 : Nat) [int i64 n147, int i64 n148, int i64 n149, string s150, int i64 n151, int i64 n152]) ∧
 LetW (setRow w155 ⟨b154, 0, none⟩ (0 : Nat) [int i64 n147, int i64 n148, int i64 n149, string s150, int i64 n151, int i64 n152]) fun w156 =>
 Ca Try.prog (42 : Nat) #[pointer p83] w156 fun e157 w158 =>
 ∃ b159 : Bool,
 (e157 = returned (bool b159)) ∧
 LetA (Obj.cells #[int i64 (0), int i64 (0), int i64 (0), int i64 (0), int i64 (0), int i64 (0), int i64 (0), int i64 (0), string ⟨#[]⟩, string ⟨#[]⟩, int i64 (0), int i64 (0), string ⟨#[]⟩, int i64 (0), int i64 (0), int i64 (0), int i64 (0), int i64 (0), int i64 (0), int i64 (0), string ⟨#[]⟩, string ⟨#[]⟩, int i64 (0), int i64 (0), slice none (0 : Nat) (0 : Nat), int i64 (0), int i64 (0), int i64 (0), int i64 (0)] (53 : Nat)) w158 fun b160 w161 =>
 ∃ I162 : List Value → World → Prop,
 (∃ n163 : Int,
 (w161.cell? ⟨b138, 0, none⟩ = some (int u8 n163)) ∧
 ((11 : Int) ≠ (0 : Int)) ∧
 LetI (n163.tmod (11 : Int)) fun n164 =>
 Br (n164 == (0 : Int))
 (Br (n164 == (0 : Int))
 (∃ n165 : Int,
 ∃ s166 : ByteArray,
 ∃ s167 : ByteArray,
 ∃ n168 : Int,
 (Row w161 ⟨b138, 3, none⟩ (0 : Nat) [int i64 n165, string s166, string s167, int i64 n168]) ∧
 ∃ p169 : Option Addr,
 ∃ k170 : Nat,
 ∃ k171 : Nat,
 (w161.cell? ⟨b19, 3, none⟩ = some (slice p169 k170 k171)) ∧
 ((↑k170 : Int) ≠ (0 : Int)) ∧
 LetI (n142.tmod (↑k170 : Int)) fun n172 =>
 LetI (i64.wrap (n91 + n144)) fun n173 =>
 Ca Try.prog (38 : Nat) #[pointer p83, agg #[int i64 n165, string s166, string s167, int i64 n168], int i64 n172, int i64 n173, int i64 n91] w161 fun e174 w175 =>
 ∃ p176 : Option Addr,
 ∃ k177 : Nat,
 ∃ k178 : Nat,
 ∃ n179 : Int,
 (e174 = returned (tuple #[slice p176 k177 k178, int i64 n179])) ∧
 Br (!(n179 == (63 : Int)) == b159)
 (R (returned (bool false)) w175)
 (Br (n179 == (0 : Int))
 (Br ((↑k177 : Int) != (1 : Int))
 (R (returned (bool false)) w175)
 (Br (n179 == (0 : Int))
 (LetI (i64.wrap (n88 + (1 : Int))) fun n180 =>
 NilOk p176 fun a181 =>
 ((
 (0 : Int) ≤ (0 : Int)) ∧
 (0 : Int) < (↑k177 : Int)) ∧
 ∃ n182 : Int,
 (w175.cell? (a181.add (1 : Nat)) = some (int i64 n182)) ∧
 Br (n182 == (1 : Int))
 (I162 [bool (n179 == (0 : Int)), bool b87, int i64 n180, int i64 (1), int i64 (0), int i64 n91, int i64 n92] w175)
 (I162 [bool (n179 == (0 : Int)), bool b87, int i64 n180, int i64 (0), int i64 (0), int i64 n91, int i64 n92] w175))
 (I162 [bool (n179 == (0 : Int)), bool b87, int i64 n88, int i64 n89, int i64 n90, int i64 n91, int i64 n92] w175)))
 (Br (n179 == (0 : Int))
 (LetI (i64.wrap (n88 + (1 : Int))) fun n183 =>
 NilOk p176 fun a184 =>
 ((
 (0 : Int) ≤ (0 : Int)) ∧
 (0 : Int) < (↑k177 : Int)) ∧
 ∃ n185 : Int,
 (w175.cell? (a184.add (1 : Nat)) = some (int i64 n185)) ∧
 Br (n185 == (1 : Int))
 (I162 [bool (n179 == (0 : Int)), bool b87, int i64 n183, int i64 (1), int i64 (0), int i64 n91, int i64 n92] w175)
 (I162 [bool (n179 == (0 : Int)), bool b87, int i64 n183, int i64 (0), int i64 (0), int i64 n91, int i64 n92] w175))
 (I162 [bool (n179 == (0 : Int)), bool b87, int i64 n88, int i64 n89, int i64 n90, int i64 n91, int i64 n92] w175))))
 (Br (n164 == (2 : Int))
 (Br (n164 == (2 : Int))
 ((
 (9 : Int) ≠ (0 : Int)) ∧
 LetI (n142.tmod (9 : Int)) fun n186 =>
 LetI (i64.wrap (n91 + n186)) fun n187 =>
 Ca Try.prog (41 : Nat) #[pointer p83, int i64 n187] w161 fun e188 w189 =>
 ∃ p190 : Option Addr,
 ∃ k191 : Nat,
 ∃ k192 : Nat,
 (e188 = returned (slice p190 k191 k192)) ∧
 I162 [bool false, bool b87, int i64 n88, int i64 n89, int i64 n90, int i64 n187, int i64 n92] w189)
 (Br (n164 == (5 : Int))
 ((
 (2 : Int) ≠ (0 : Int)) ∧
 LetI (n142.tmod (2 : Int)) fun n193 =>
 LetI (i64.wrap (n92 + n193)) fun n194 =>
 LetI (i64.wrap ((1 : Int) + n194)) fun n195 =>
 ((6 : Int) ≠ (0 : Int)) ∧
 LetI (n144.tmod (6 : Int)) fun n196 =>
 LetA (Obj.cells #[int i64 n196, int i64 (1)] (64 : Nat)) w161 fun b197 w198 =>
 (WrRow w198 ⟨b160, 0, none⟩ (0 : Nat) [int i64 (8), int i64 (0), int i64 (0), int i64 (0), int i64 (0), int i64 (0), int i64 (0), int i64 (0), string ⟨#[]⟩, string ⟨#[]⟩, int i64 (0), int i64 (0), string ⟨#[]⟩, int i64 (0), int i64 (0), int i64 (0), int i64 (0), int i64 (0), int i64 (0), int i64 (0), string ⟨#[]⟩, string ⟨#[]⟩, int i64 (0), int i64 n195, slice (some ⟨b197, 0, none⟩) (1 : Nat) (1 : Nat), int i64 (-1), int i64 (0), int i64 (0), int i64 (0)]) ∧
 LetW (setRow w198 ⟨b160, 0, none⟩ (0 : Nat) [int i64 (8), int i64 (0), int i64 (0), int i64 (0), int i64 (0), int i64 (0), int i64 (0), int i64 (0), string ⟨#[]⟩, string ⟨#[]⟩, int i64 (0), int i64 (0), string ⟨#[]⟩, int i64 (0), int i64 (0), int i64 (0), int i64 (0), int i64 (0), int i64 (0), int i64 (0), string ⟨#[]⟩, string ⟨#[]⟩, int i64 (0), int i64 n195, slice (some ⟨b197, 0, none⟩) (1 : Nat) (1 : Nat), int i64 (-1), int i64 (0), int i64 (0), int i64 (0)]) fun w199 =>
 ∃ n200 : Int,
 ∃ n201 : Int,
 ∃ n202 : Int,
 ∃ n203 : Int,
 ∃ n204 : Int,
 ∃ n205 : Int,
 ∃ n206 : Int,
 ∃ n207 : Int,
 ∃ s208 : ByteArray,
 ∃ s209 : ByteArray,
 ∃ n210 : Int,
 ∃ n211 : Int,
 ∃ s212 : ByteArray,
 ∃ n213 : Int,
 ∃ n214 : Int,
 ∃ n215 : Int,
 ∃ n216 : Int,
 ∃ n217 : Int,
 ∃ n218 : Int,
 ∃ n219 : Int,
 ∃ s220 : ByteArray,
 ∃ s221 : ByteArray,
 ∃ n222 : Int,
 ∃ n223 : Int,
 ∃ p224 : Option Addr,
 ∃ k225 : Nat,
 ∃ k226 : Nat,
 ∃ n227 : Int,
 ∃ n228 : Int,
 ∃ n229 : Int,
 ∃ n230 : Int,
 (Row w199 ⟨b160, 0, none⟩ (0 : Nat) [int i64 n200, int i64 n201, int i64 n202, int i64 n203, int i64 n204, int i64 n205, int i64 n206, int i64 n207, string s208, string s209, int i64 n210, int i64 n211, string s212, int i64 n213, int i64 n214, int i64 n215, int i64 n216, int i64 n217, int i64 n218, int i64 n219, string s220, string s221, int i64 n222, int i64 n223, slice p224 k225 k226, int i64 n227, int i64 n228, int i64 n229, int i64 n230]) ∧
 Ca Try.prog (40 : Nat) #[pointer p83, agg #[int i64 n200, int i64 n201, int i64 n202, int i64 n203, int i64 n204, int i64 n205, int i64 n206, int i64 n207, string s208, string s209, int i64 n210, int i64 n211, string s212, int i64 n213, int i64 n214, int i64 n215, int i64 n216, int i64 n217, int i64 n218, int i64 n219, string s220, string s221, int i64 n222, int i64 n223, slice p224 k225 k226, int i64 n227, int i64 n228, int i64 n229, int i64 n230], int i64 n91] w199 fun e231 w232 =>
 ∃ p233 : Option Addr,
 ∃ k234 : Nat,
 ∃ k235 : Nat,
 (e231 = returned (slice p233 k234 k235)) ∧
 Br ((↑k234 : Int) == (1 : Int))
 (LetI (i64.wrap (n89 + (1 : Int))) fun n236 =>
 NilOk p233 fun a237 =>
 ((
 (0 : Int) ≤ (0 : Int)) ∧
 (0 : Int) < (↑k234 : Int)) ∧
 ∃ n238 : Int,
 ∃ n239 : Int,
 ∃ n240 : Int,
 ∃ n241 : Int,
 ∃ n242 : Int,
 ∃ n243 : Int,
 ∃ n244 : Int,
 ∃ n245 : Int,
 ∃ s246 : ByteArray,
 ∃ s247 : ByteArray,
 ∃ n248 : Int,
 ∃ n249 : Int,
 ∃ s250 : ByteArray,
 ∃ n251 : Int,
 ∃ n252 : Int,
 ∃ n253 : Int,
 ∃ n254 : Int,
 ∃ n255 : Int,
 ∃ n256 : Int,
 ∃ n257 : Int,
 ∃ s258 : ByteArray,
 ∃ s259 : ByteArray,
 ∃ n260 : Int,
 ∃ n261 : Int,
 ∃ p262 : Option Addr,
 ∃ k263 : Nat,
 ∃ k264 : Nat,
 ∃ n265 : Int,
 ∃ n266 : Int,
 ∃ n267 : Int,
 ∃ n268 : Int,
 (Row w232 (a237.add (1 : Nat)) (0 : Nat) [int i64 n238, int i64 n239, int i64 n240, int i64 n241, int i64 n242, int i64 n243, int i64 n244, int i64 n245, string s246, string s247, int i64 n248, int i64 n249, string s250, int i64 n251, int i64 n252, int i64 n253, int i64 n254, int i64 n255, int i64 n256, int i64 n257, string s258, string s259, int i64 n260, int i64 n261, slice p262 k263 k264, int i64 n265, int i64 n266, int i64 n267, int i64 n268]) ∧
 LetA (Obj.cells #[int i64 (0), int i64 (0), int i64 (0), int i64 (0), int i64 (0), int i64 (0), int i64 (0), int i64 (0), string ⟨#[]⟩, string ⟨#[]⟩, int i64 (0), int i64 (0), string ⟨#[]⟩, int i64 (0), int i64 (0), int i64 (0), int i64 (0), int i64 (0), int i64 (0), int i64 (0), string ⟨#[]⟩, string ⟨#[]⟩, int i64 (0), int i64 (0), slice none (0 : Nat) (0 : Nat), int i64 (0), int i64 (0), int i64 (0), int i64 (0)] (53 : Nat)) w232 fun b269 w270 =>
 (WrRow w270 ⟨b269, 0, none⟩ (0 : Nat) [int i64 n238, int i64 n239, int i64 n240, int i64 n241, int i64 n242, int i64 n243, int i64 n244, int i64 n245, string s246, string s247, int i64 n248, int i64 n249, string s250, int i64 n251, int i64 n252, int i64 n253, int i64 n254, int i64 n255, int i64 n256, int i64 n257, string s258, string s259, int i64 n260, int i64 n261, slice p262 k263 k264, int i64 n265, int i64 n266, int i64 n267, int i64 n268]) ∧
 LetW (setRow w270 ⟨b269, 0, none⟩ (0 : Nat) [int i64 n238, int i64 n239, int i64 n240, int i64 n241, int i64 n242, int i64 n243, int i64 n244, int i64 n245, string s246, string s247, int i64 n248, int i64 n249, string s250, int i64 n251, int i64 n252, int i64 n253, int i64 n254, int i64 n255, int i64 n256, int i64 n257, string s258, string s259, int i64 n260, int i64 n261, slice p262 k263 k264, int i64 n265, int i64 n266, int i64 n267, int i64 n268]) fun w271 =>
 ∃ n272 : Int,
 (w271.cell? ⟨b269, 0, none⟩ = some (int i64 n272)) ∧
 Br (n272 != (1 : Int))
 (R (returned (bool false)) w271)
 (∃ n273 : Int,
 (w271.cell? ⟨b269, 2, none⟩ = some (int i64 n273)) ∧
 Br (n273 != n66)
 (R (returned (bool false)) w271)
 (∃ n274 : Int,
 (w271.cell? ⟨b269, 3, none⟩ = some (int i64 n274)) ∧
 Br (n274 != n88)
 (R (returned (bool false)) w271)
 (∃ n275 : Int,
 (w271.cell? ⟨b269, 4, none⟩ = some (int i64 n275)) ∧
 Br (n275 != n236)
 (R (returned (bool false)) w271)
 (∃ n276 : Int,
 (w271.cell? ⟨b269, 1, none⟩ = some (int i64 n276)) ∧
 LetI (i64.wrap ((1 : Int) + n194)) fun n277 =>
 Br (n276 != n277)
 (R (returned (bool false)) w271)
 (NilOk p233 fun a278 =>
 ((
 (0 : Int) ≤ (0 : Int)) ∧
 (0 : Int) < (↑k234 : Int)) ∧
 ∃ n279 : Int,
 (w271.cell? a278 = some (int i64 n279)) ∧
 ((6 : Int) ≠ (0 : Int)) ∧
 LetI (n144.tmod (6 : Int)) fun n280 =>
 Br (n279 != n280)
 (R (returned (bool false)) w271)
 (I162 [bool false, bool b87, int i64 n88, int i64 n236, int i64 n90, int i64 n91, int i64 n194] w271)))))))
 (I162 [bool false, bool b87, int i64 n88, int i64 n89, int i64 n90, int i64 n91, int i64 n194] w232))
 (Br (n164 == (6 : Int))
 ((
 (2 : Int) ≠ (0 : Int)) ∧
 LetI (n144.tmod (2 : Int)) fun n281 =>
 LetI (i64.wrap (n88 - n281)) fun n282 =>
 Ca Try.prog (40 : Nat) #[pointer p83, agg #[int i64 (2), int i64 (0), int i64 n66, int i64 n282, int i64 (0), int i64 (0), int i64 (0), int i64 (0), string ⟨#[]⟩, string ⟨#[]⟩, int i64 (0), int i64 (1), string ⟨#[]⟩, int i64 (0), int i64 n142, int i64 (0), int i64 (0), int i64 (0), int i64 (0), int i64 (0), string ⟨#[]⟩, string ⟨#[]⟩, int i64 (0), int i64 (0), slice none (0 : Nat) (0 : Nat), int i64 (0), int i64 (0), int i64 (0), int i64 (0)], int i64 n91] w161 fun e283 w284 =>
 ∃ p285 : Option Addr,
 ∃ k286 : Nat,
 ∃ k287 : Nat,
 (e283 = returned (slice p285 k286 k287)) ∧
 I162 [bool false, bool b87, int i64 n88, int i64 n89, int i64 n90, int i64 n91, int i64 n92] w284)
 (Ca Try.prog (44 : Nat) #[pointer p83] w161 fun e288 w289 =>
 ∃ n290 : Int,
 (e288 = returned (int i64 n290)) ∧
 ((8 : Int) ≠ (0 : Int)) ∧
 LetI (n142.tmod (8 : Int)) fun n291 =>
 Br (n291 == (7 : Int))
 (LetI (i64.wrap (n290 - (1 : Int))) fun n292 =>
 ((10 : Int) ≠ (0 : Int)) ∧
 LetI (n144.tmod (10 : Int)) fun n293 =>
 LetI (i64.wrap ((1 : Int) + n293)) fun n294 =>
 Ca Try.prog (40 : Nat) #[pointer p83, agg #[int i64 (3), int i64 (0), int i64 n66, int i64 n88, int i64 n292, int i64 (0), int i64 (0), int i64 (0), string ⟨#[]⟩, string ⟨#[]⟩, int i64 (0), int i64 (0), string ⟨#[]⟩, int i64 (0), int i64 (0), int i64 n294, int i64 (0), int i64 (0), int i64 (0), int i64 (0), string ⟨#[]⟩, string ⟨#[]⟩, int i64 (0), int i64 (0), slice none (0 : Nat) (0 : Nat), int i64 (0), int i64 (0), int i64 (0), int i64 (0)], int i64 n91] w289 fun e295 w296 =>
 ∃ p297 : Option Addr,
 ∃ k298 : Nat,
 ∃ k299 : Nat,
 (e295 = returned (slice p297 k298 k299)) ∧
 Br (b159)
 (Br (n292 == n89)
 (Br (decide (n90 < n89))
 ((
 (10 : Int) ≠ (0 : Int)) ∧
 LetI (n144.tmod (10 : Int)) fun n300 =>
 LetI (i64.wrap ((1 : Int) + n300)) fun n301 =>
 Br (n301 != (6 : Int))
 (LetI (i64.wrap (n90 + (1 : Int))) fun n302 =>
 I162 [bool false, bool b87, int i64 n88, int i64 n89, int i64 n302, int i64 n91, int i64 n92] w296)
 (I162 [bool false, bool b87, int i64 n88, int i64 n89, int i64 n90, int i64 n91, int i64 n92] w296))
 (I162 [bool false, bool b87, int i64 n88, int i64 n89, int i64 n90, int i64 n91, int i64 n92] w296))
 (I162 [bool false, bool b87, int i64 n88, int i64 n89, int i64 n90, int i64 n91, int i64 n92] w296))
 (I162 [bool false, bool b87, int i64 n88, int i64 n89, int i64 n90, int i64 n91, int i64 n92] w296))
 ((
 (10 : Int) ≠ (0 : Int)) ∧
 LetI (n144.tmod (10 : Int)) fun n303 =>
 LetI (i64.wrap ((1 : Int) + n303)) fun n304 =>
 Ca Try.prog (40 : Nat) #[pointer p83, agg #[int i64 (3), int i64 (0), int i64 n66, int i64 n88, int i64 n290, int i64 (0), int i64 (0), int i64 (0), string ⟨#[]⟩, string ⟨#[]⟩, int i64 (0), int i64 (0), string ⟨#[]⟩, int i64 (0), int i64 (0), int i64 n304, int i64 (0), int i64 (0), int i64 (0), int i64 (0), string ⟨#[]⟩, string ⟨#[]⟩, int i64 (0), int i64 (0), slice none (0 : Nat) (0 : Nat), int i64 (0), int i64 (0), int i64 (0), int i64 (0)], int i64 n91] w289 fun e305 w306 =>
 ∃ p307 : Option Addr,
 ∃ k308 : Nat,
 ∃ k309 : Nat,
 (e305 = returned (slice p307 k308 k309)) ∧
 Br (b159)
 (Br (n290 == n89)
 (Br (decide (n90 < n89))
 ((
 (10 : Int) ≠ (0 : Int)) ∧
 LetI (n144.tmod (10 : Int)) fun n310 =>
 LetI (i64.wrap ((1 : Int) + n310)) fun n311 =>
 Br (n311 != (6 : Int))
 (LetI (i64.wrap (n90 + (1 : Int))) fun n312 =>
 I162 [bool false, bool b87, int i64 n88, int i64 n89, int i64 n312, int i64 n91, int i64 n92] w306)
 (I162 [bool false, bool b87, int i64 n88, int i64 n89, int i64 n90, int i64 n91, int i64 n92] w306))
 (I162 [bool false, bool b87, int i64 n88, int i64 n89, int i64 n90, int i64 n91, int i64 n92] w306))
 (I162 [bool false, bool b87, int i64 n88, int i64 n89, int i64 n90, int i64 n91, int i64 n92] w306))
 (I162 [bool false, bool b87, int i64 n88, int i64 n89, int i64 n90, int i64 n91, int i64 n92] w306))))))
 (Br (n164 == (3 : Int))
 (Br (n164 == (3 : Int))
 ((
 (9 : Int) ≠ (0 : Int)) ∧
 LetI (n142.tmod (9 : Int)) fun n313 =>
 LetI (i64.wrap (n91 + n313)) fun n314 =>
 Ca Try.prog (41 : Nat) #[pointer p83, int i64 n314] w161 fun e315 w316 =>
 ∃ p317 : Option Addr,
 ∃ k318 : Nat,
 ∃ k319 : Nat,
 (e315 = returned (slice p317 k318 k319)) ∧
 I162 [bool false, bool b87, int i64 n88, int i64 n89, int i64 n90, int i64 n314, int i64 n92] w316)
 (Br (n164 == (5 : Int))
 ((
 (2 : Int) ≠ (0 : Int)) ∧
 LetI (n142.tmod (2 : Int)) fun n320 =>
 LetI (i64.wrap (n92 + n320)) fun n321 =>
 LetI (i64.wrap ((1 : Int) + n321)) fun n322 =>
 ((6 : Int) ≠ (0 : Int)) ∧
 LetI (n144.tmod (6 : Int)) fun n323 =>
 LetA (Obj.cells #[int i64 n323, int i64 (1)] (64 : Nat)) w161 fun b324 w325 =>
 (WrRow w325 ⟨b160, 0, none⟩ (0 : Nat) [int i64 (8), int i64 (0), int i64 (0), int i64 (0), int i64 (0), int i64 (0), int i64 (0), int i64 (0), string ⟨#[]⟩, string ⟨#[]⟩, int i64 (0), int i64 (0), string ⟨#[]⟩, int i64 (0), int i64 (0), int i64 (0), int i64 (0), int i64 (0), int i64 (0), int i64 (0), string ⟨#[]⟩, string ⟨#[]⟩, int i64 (0), int i64 n322, slice (some ⟨b324, 0, none⟩) (1 : Nat) (1 : Nat), int i64 (-1), int i64 (0), int i64 (0), int i64 (0)]) ∧
 LetW (setRow w325 ⟨b160, 0, none⟩ (0 : Nat) [int i64 (8), int i64 (0), int i64 (0), int i64 (0), int i64 (0), int i64 (0), int i64 (0), int i64 (0), string ⟨#[]⟩, string ⟨#[]⟩, int i64 (0), int i64 (0), string ⟨#[]⟩, int i64 (0), int i64 (0), int i64 (0), int i64 (0), int i64 (0), int i64 (0), int i64 (0), string ⟨#[]⟩, string ⟨#[]⟩, int i64 (0), int i64 n322, slice (some ⟨b324, 0, none⟩) (1 : Nat) (1 : Nat), int i64 (-1), int i64 (0), int i64 (0), int i64 (0)]) fun w326 =>
 ∃ n327 : Int,
 ∃ n328 : Int,
 ∃ n329 : Int,
 ∃ n330 : Int,
 ∃ n331 : Int,
 ∃ n332 : Int,
 ∃ n333 : Int,
 ∃ n334 : Int,
 ∃ s335 : ByteArray,
 ∃ s336 : ByteArray,
 ∃ n337 : Int,
 ∃ n338 : Int,
 ∃ s339 : ByteArray,
 ∃ n340 : Int,
 ∃ n341 : Int,
 ∃ n342 : Int,
 ∃ n343 : Int,
 ∃ n344 : Int,
 ∃ n345 : Int,
 ∃ n346 : Int,
 ∃ s347 : ByteArray,
 ∃ s348 : ByteArray,
 ∃ n349 : Int,
 ∃ n350 : Int,
 ∃ p351 : Option Addr,
 ∃ k352 : Nat,
 ∃ k353 : Nat,
 ∃ n354 : Int,
 ∃ n355 : Int,
 ∃ n356 : Int,
 ∃ n357 : Int,
 (Row w326 ⟨b160, 0, none⟩ (0 : Nat) [int i64 n327, int i64 n328, int i64 n329, int i64 n330, int i64 n331, int i64 n332, int i64 n333, int i64 n334, string s335, string s336, int i64 n337, int i64 n338, string s339, int i64 n340, int i64 n341, int i64 n342, int i64 n343, int i64 n344, int i64 n345, int i64 n346, string s347, string s348, int i64 n349, int i64 n350, slice p351 k352 k353, int i64 n354, int i64 n355, int i64 n356, int i64 n357]) ∧
 Ca Try.prog (40 : Nat) #[pointer p83, agg #[int i64 n327, int i64 n328, int i64 n329, int i64 n330, int i64 n331, int i64 n332, int i64 n333, int i64 n334, string s335, string s336, int i64 n337, int i64 n338, string s339, int i64 n340, int i64 n341, int i64 n342, int i64 n343, int i64 n344, int i64 n345, int i64 n346, string s347, string s348, int i64 n349, int i64 n350, slice p351 k352 k353, int i64 n354, int i64 n355, int i64 n356, int i64 n357], int i64 n91] w326 fun e358 w359 =>
 ∃ p360 : Option Addr,
 ∃ k361 : Nat,
 ∃ k362 : Nat,
 (e358 = returned (slice p360 k361 k362)) ∧
 Br ((↑k361 : Int) == (1 : Int))
 (LetI (i64.wrap (n89 + (1 : Int))) fun n363 =>
 NilOk p360 fun a364 =>
 ((
 (0 : Int) ≤ (0 : Int)) ∧
 (0 : Int) < (↑k361 : Int)) ∧
 ∃ n365 : Int,
 ∃ n366 : Int,
 ∃ n367 : Int,
 ∃ n368 : Int,
 ∃ n369 : Int,
 ∃ n370 : Int,
 ∃ n371 : Int,
 ∃ n372 : Int,
 ∃ s373 : ByteArray,
 ∃ s374 : ByteArray,
 ∃ n375 : Int,
 ∃ n376 : Int,
 ∃ s377 : ByteArray,
 ∃ n378 : Int,
 ∃ n379 : Int,
 ∃ n380 : Int,
 ∃ n381 : Int,
 ∃ n382 : Int,
 ∃ n383 : Int,
 ∃ n384 : Int,
 ∃ s385 : ByteArray,
 ∃ s386 : ByteArray,
 ∃ n387 : Int,
 ∃ n388 : Int,
 ∃ p389 : Option Addr,
 ∃ k390 : Nat,
 ∃ k391 : Nat,
 ∃ n392 : Int,
 ∃ n393 : Int,
 ∃ n394 : Int,
 ∃ n395 : Int,
 (Row w359 (a364.add (1 : Nat)) (0 : Nat) [int i64 n365, int i64 n366, int i64 n367, int i64 n368, int i64 n369, int i64 n370, int i64 n371, int i64 n372, string s373, string s374, int i64 n375, int i64 n376, string s377, int i64 n378, int i64 n379, int i64 n380, int i64 n381, int i64 n382, int i64 n383, int i64 n384, string s385, string s386, int i64 n387, int i64 n388, slice p389 k390 k391, int i64 n392, int i64 n393, int i64 n394, int i64 n395]) ∧
 LetA (Obj.cells #[int i64 (0), int i64 (0), int i64 (0), int i64 (0), int i64 (0), int i64 (0), int i64 (0), int i64 (0), string ⟨#[]⟩, string ⟨#[]⟩, int i64 (0), int i64 (0), string ⟨#[]⟩, int i64 (0), int i64 (0), int i64 (0), int i64 (0), int i64 (0), int i64 (0), int i64 (0), string ⟨#[]⟩, string ⟨#[]⟩, int i64 (0), int i64 (0), slice none (0 : Nat) (0 : Nat), int i64 (0), int i64 (0), int i64 (0), int i64 (0)] (53 : Nat)) w359 fun b396 w397 =>
 (WrRow w397 ⟨b396, 0, none⟩ (0 : Nat) [int i64 n365, int i64 n366, int i64 n367, int i64 n368, int i64 n369, int i64 n370, int i64 n371, int i64 n372, string s373, string s374, int i64 n375, int i64 n376, string s377, int i64 n378, int i64 n379, int i64 n380, int i64 n381, int i64 n382, int i64 n383, int i64 n384, string s385, string s386, int i64 n387, int i64 n388, slice p389 k390 k391, int i64 n392, int i64 n393, int i64 n394, int i64 n395]) ∧
 LetW (setRow w397 ⟨b396, 0, none⟩ (0 : Nat) [int i64 n365, int i64 n366, int i64 n367, int i64 n368, int i64 n369, int i64 n370, int i64 n371, int i64 n372, string s373, string s374, int i64 n375, int i64 n376, string s377, int i64 n378, int i64 n379, int i64 n380, int i64 n381, int i64 n382, int i64 n383, int i64 n384, string s385, string s386, int i64 n387, int i64 n388, slice p389 k390 k391, int i64 n392, int i64 n393, int i64 n394, int i64 n395]) fun w398 =>
 ∃ n399 : Int,
 (w398.cell? ⟨b396, 0, none⟩ = some (int i64 n399)) ∧
 Br (n399 != (1 : Int))
 (R (returned (bool false)) w398)
 (∃ n400 : Int,
 (w398.cell? ⟨b396, 2, none⟩ = some (int i64 n400)) ∧
 Br (n400 != n66)
 (R (returned (bool false)) w398)
 (∃ n401 : Int,
 (w398.cell? ⟨b396, 3, none⟩ = some (int i64 n401)) ∧
 Br (n401 != n88)
 (R (returned (bool false)) w398)
 (∃ n402 : Int,
 (w398.cell? ⟨b396, 4, none⟩ = some (int i64 n402)) ∧
 Br (n402 != n363)
 (R (returned (bool false)) w398)
 (∃ n403 : Int,
 (w398.cell? ⟨b396, 1, none⟩ = some (int i64 n403)) ∧
 LetI (i64.wrap ((1 : Int) + n321)) fun n404 =>
 Br (n403 != n404)
 (R (returned (bool false)) w398)
 (NilOk p360 fun a405 =>
 ((
 (0 : Int) ≤ (0 : Int)) ∧
 (0 : Int) < (↑k361 : Int)) ∧
 ∃ n406 : Int,
 (w398.cell? a405 = some (int i64 n406)) ∧
 ((6 : Int) ≠ (0 : Int)) ∧
 LetI (n144.tmod (6 : Int)) fun n407 =>
 Br (n406 != n407)
 (R (returned (bool false)) w398)
 (I162 [bool false, bool b87, int i64 n88, int i64 n363, int i64 n90, int i64 n91, int i64 n321] w398)))))))
 (I162 [bool false, bool b87, int i64 n88, int i64 n89, int i64 n90, int i64 n91, int i64 n321] w359))
 (Br (n164 == (6 : Int))
 ((
 (2 : Int) ≠ (0 : Int)) ∧
 LetI (n144.tmod (2 : Int)) fun n408 =>
 LetI (i64.wrap (n88 - n408)) fun n409 =>
 Ca Try.prog (40 : Nat) #[pointer p83, agg #[int i64 (2), int i64 (0), int i64 n66, int i64 n409, int i64 (0), int i64 (0), int i64 (0), int i64 (0), string ⟨#[]⟩, string ⟨#[]⟩, int i64 (0), int i64 (1), string ⟨#[]⟩, int i64 (0), int i64 n142, int i64 (0), int i64 (0), int i64 (0), int i64 (0), int i64 (0), string ⟨#[]⟩, string ⟨#[]⟩, int i64 (0), int i64 (0), slice none (0 : Nat) (0 : Nat), int i64 (0), int i64 (0), int i64 (0), int i64 (0)], int i64 n91] w161 fun e410 w411 =>
 ∃ p412 : Option Addr,
 ∃ k413 : Nat,
 ∃ k414 : Nat,
 (e410 = returned (slice p412 k413 k414)) ∧
 I162 [bool false, bool b87, int i64 n88, int i64 n89, int i64 n90, int i64 n91, int i64 n92] w411)
 (Ca Try.prog (44 : Nat) #[pointer p83] w161 fun e415 w416 =>
 ∃ n417 : Int,
 (e415 = returned (int i64 n417)) ∧
 ((8 : Int) ≠ (0 : Int)) ∧
 LetI (n142.tmod (8 : Int)) fun n418 =>
 Br (n418 == (7 : Int))
 (LetI (i64.wrap (n417 - (1 : Int))) fun n419 =>
 ((10 : Int) ≠ (0 : Int)) ∧
 LetI (n144.tmod (10 : Int)) fun n420 =>
 LetI (i64.wrap ((1 : Int) + n420)) fun n421 =>
 Ca Try.prog (40 : Nat) #[pointer p83, agg #[int i64 (3), int i64 (0), int i64 n66, int i64 n88, int i64 n419, int i64 (0), int i64 (0), int i64 (0), string ⟨#[]⟩, string ⟨#[]⟩, int i64 (0), int i64 (0), string ⟨#[]⟩, int i64 (0), int i64 (0), int i64 n421, int i64 (0), int i64 (0), int i64 (0), int i64 (0), string ⟨#[]⟩, string ⟨#[]⟩, int i64 (0), int i64 (0), slice none (0 : Nat) (0 : Nat), int i64 (0), int i64 (0), int i64 (0), int i64 (0)], int i64 n91] w416 fun e422 w423 =>
 ∃ p424 : Option Addr,
 ∃ k425 : Nat,
 ∃ k426 : Nat,
 (e422 = returned (slice p424 k425 k426)) ∧
 Br (b159)
 (Br (n419 == n89)
 (Br (decide (n90 < n89))
 ((
 (10 : Int) ≠ (0 : Int)) ∧
 LetI (n144.tmod (10 : Int)) fun n427 =>
 LetI (i64.wrap ((1 : Int) + n427)) fun n428 =>
 Br (n428 != (6 : Int))
 (LetI (i64.wrap (n90 + (1 : Int))) fun n429 =>
 I162 [bool false, bool b87, int i64 n88, int i64 n89, int i64 n429, int i64 n91, int i64 n92] w423)
 (I162 [bool false, bool b87, int i64 n88, int i64 n89, int i64 n90, int i64 n91, int i64 n92] w423))
 (I162 [bool false, bool b87, int i64 n88, int i64 n89, int i64 n90, int i64 n91, int i64 n92] w423))
 (I162 [bool false, bool b87, int i64 n88, int i64 n89, int i64 n90, int i64 n91, int i64 n92] w423))
 (I162 [bool false, bool b87, int i64 n88, int i64 n89, int i64 n90, int i64 n91, int i64 n92] w423))
 ((
 (10 : Int) ≠ (0 : Int)) ∧
 LetI (n144.tmod (10 : Int)) fun n430 =>
 LetI (i64.wrap ((1 : Int) + n430)) fun n431 =>
 Ca Try.prog (40 : Nat) #[pointer p83, agg #[int i64 (3), int i64 (0), int i64 n66, int i64 n88, int i64 n417, int i64 (0), int i64 (0), int i64 (0), string ⟨#[]⟩, string ⟨#[]⟩, int i64 (0), int i64 (0), string ⟨#[]⟩, int i64 (0), int i64 (0), int i64 n431, int i64 (0), int i64 (0), int i64 (0), int i64 (0), string ⟨#[]⟩, string ⟨#[]⟩, int i64 (0), int i64 (0), slice none (0 : Nat) (0 : Nat), int i64 (0), int i64 (0), int i64 (0), int i64 (0)], int i64 n91] w416 fun e432 w433 =>
 ∃ p434 : Option Addr,
 ∃ k435 : Nat,
 ∃ k436 : Nat,
 (e432 = returned (slice p434 k435 k436)) ∧
 Br (b159)
 (Br (n417 == n89)
 (Br (decide (n90 < n89))
 ((
 (10 : Int) ≠ (0 : Int)) ∧
 LetI (n144.tmod (10 : Int)) fun n437 =>
 LetI (i64.wrap ((1 : Int) + n437)) fun n438 =>
 Br (n438 != (6 : Int))
 (LetI (i64.wrap (n90 + (1 : Int))) fun n439 =>
 I162 [bool false, bool b87, int i64 n88, int i64 n89, int i64 n439, int i64 n91, int i64 n92] w433)
 (I162 [bool false, bool b87, int i64 n88, int i64 n89, int i64 n90, int i64 n91, int i64 n92] w433))
 (I162 [bool false, bool b87, int i64 n88, int i64 n89, int i64 n90, int i64 n91, int i64 n92] w433))
 (I162 [bool false, bool b87, int i64 n88, int i64 n89, int i64 n90, int i64 n91, int i64 n92] w433))
 (I162 [bool false, bool b87, int i64 n88, int i64 n89, int i64 n90, int i64 n91, int i64 n92] w433))))))
 (Br (n164 == (4 : Int))
 ((
 (9 : Int) ≠ (0 : Int)) ∧
 LetI (n142.tmod (9 : Int)) fun n440 =>
 LetI (i64.wrap (n91 + n440)) fun n441 =>
 Ca Try.prog (41 : Nat) #[pointer p83, int i64 n441] w161 fun e442 w443 =>
 ∃ p444 : Option Addr,
 ∃ k445 : Nat,
 ∃ k446 : Nat,
 (e442 = returned (slice p444 k445 k446)) ∧
 I162 [bool false, bool b87, int i64 n88, int i64 n89, int i64 n90, int i64 n441, int i64 n92] w443)
 (Br (n164 == (5 : Int))
 ((
 (2 : Int) ≠ (0 : Int)) ∧
 LetI (n142.tmod (2 : Int)) fun n447 =>
 LetI (i64.wrap (n92 + n447)) fun n448 =>
 LetI (i64.wrap ((1 : Int) + n448)) fun n449 =>
 ((6 : Int) ≠ (0 : Int)) ∧
 LetI (n144.tmod (6 : Int)) fun n450 =>
 LetA (Obj.cells #[int i64 n450, int i64 (1)] (64 : Nat)) w161 fun b451 w452 =>
 (WrRow w452 ⟨b160, 0, none⟩ (0 : Nat) [int i64 (8), int i64 (0), int i64 (0), int i64 (0), int i64 (0), int i64 (0), int i64 (0), int i64 (0), string ⟨#[]⟩, string ⟨#[]⟩, int i64 (0), int i64 (0), string ⟨#[]⟩, int i64 (0), int i64 (0), int i64 (0), int i64 (0), int i64 (0), int i64 (0), int i64 (0), string ⟨#[]⟩, string ⟨#[]⟩, int i64 (0), int i64 n449, slice (some ⟨b451, 0, none⟩) (1 : Nat) (1 : Nat), int i64 (-1), int i64 (0), int i64 (0), int i64 (0)]) ∧
 LetW (setRow w452 ⟨b160, 0, none⟩ (0 : Nat) [int i64 (8), int i64 (0), int i64 (0), int i64 (0), int i64 (0), int i64 (0), int i64 (0), int i64 (0), string ⟨#[]⟩, string ⟨#[]⟩, int i64 (0), int i64 (0), string ⟨#[]⟩, int i64 (0), int i64 (0), int i64 (0), int i64 (0), int i64 (0), int i64 (0), int i64 (0), string ⟨#[]⟩, string ⟨#[]⟩, int i64 (0), int i64 n449, slice (some ⟨b451, 0, none⟩) (1 : Nat) (1 : Nat), int i64 (-1), int i64 (0), int i64 (0), int i64 (0)]) fun w453 =>
 ∃ n454 : Int,
 ∃ n455 : Int,
 ∃ n456 : Int,
 ∃ n457 : Int,
 ∃ n458 : Int,
 ∃ n459 : Int,
 ∃ n460 : Int,
 ∃ n461 : Int,
 ∃ s462 : ByteArray,
 ∃ s463 : ByteArray,
 ∃ n464 : Int,
 ∃ n465 : Int,
 ∃ s466 : ByteArray,
 ∃ n467 : Int,
 ∃ n468 : Int,
 ∃ n469 : Int,
 ∃ n470 : Int,
 ∃ n471 : Int,
 ∃ n472 : Int,
 ∃ n473 : Int,
 ∃ s474 : ByteArray,
 ∃ s475 : ByteArray,
 ∃ n476 : Int,
 ∃ n477 : Int,
 ∃ p478 : Option Addr,
 ∃ k479 : Nat,
 ∃ k480 : Nat,
 ∃ n481 : Int,
 ∃ n482 : Int,
 ∃ n483 : Int,
 ∃ n484 : Int,
 (Row w453 ⟨b160, 0, none⟩ (0 : Nat) [int i64 n454, int i64 n455, int i64 n456, int i64 n457, int i64 n458, int i64 n459, int i64 n460, int i64 n461, string s462, string s463, int i64 n464, int i64 n465, string s466, int i64 n467, int i64 n468, int i64 n469, int i64 n470, int i64 n471, int i64 n472, int i64 n473, string s474, string s475, int i64 n476, int i64 n477, slice p478 k479 k480, int i64 n481, int i64 n482, int i64 n483, int i64 n484]) ∧
 Ca Try.prog (40 : Nat) #[pointer p83, agg #[int i64 n454, int i64 n455, int i64 n456, int i64 n457, int i64 n458, int i64 n459, int i64 n460, int i64 n461, string s462, string s463, int i64 n464, int i64 n465, string s466, int i64 n467, int i64 n468, int i64 n469, int i64 n470, int i64 n471, int i64 n472, int i64 n473, string s474, string s475, int i64 n476, int i64 n477, slice p478 k479 k480, int i64 n481, int i64 n482, int i64 n483, int i64 n484], int i64 n91] w453 fun e485 w486 =>
 ∃ p487 : Option Addr,
 ∃ k488 : Nat,
 ∃ k489 : Nat,
 (e485 = returned (slice p487 k488 k489)) ∧
 Br ((↑k488 : Int) == (1 : Int))
 (LetI (i64.wrap (n89 + (1 : Int))) fun n490 =>
 NilOk p487 fun a491 =>
 ((
 (0 : Int) ≤ (0 : Int)) ∧
 (0 : Int) < (↑k488 : Int)) ∧
 ∃ n492 : Int,
 ∃ n493 : Int,
 ∃ n494 : Int,
 ∃ n495 : Int,
 ∃ n496 : Int,
 ∃ n497 : Int,
 ∃ n498 : Int,
 ∃ n499 : Int,
 ∃ s500 : ByteArray,
 ∃ s501 : ByteArray,
 ∃ n502 : Int,
 ∃ n503 : Int,
 ∃ s504 : ByteArray,
 ∃ n505 : Int,
 ∃ n506 : Int,
 ∃ n507 : Int,
 ∃ n508 : Int,
 ∃ n509 : Int,
 ∃ n510 : Int,
 ∃ n511 : Int,
 ∃ s512 : ByteArray,
 ∃ s513 : ByteArray,
 ∃ n514 : Int,
 ∃ n515 : Int,
 ∃ p516 : Option Addr,
 ∃ k517 : Nat,
 ∃ k518 : Nat,
 ∃ n519 : Int,
 ∃ n520 : Int,
 ∃ n521 : Int,
 ∃ n522 : Int,
 (Row w486 (a491.add (1 : Nat)) (0 : Nat) [int i64 n492, int i64 n493, int i64 n494, int i64 n495, int i64 n496, int i64 n497, int i64 n498, int i64 n499, string s500, string s501, int i64 n502, int i64 n503, string s504, int i64 n505, int i64 n506, int i64 n507, int i64 n508, int i64 n509, int i64 n510, int i64 n511, string s512, string s513, int i64 n514, int i64 n515, slice p516 k517 k518, int i64 n519, int i64 n520, int i64 n521, int i64 n522]) ∧
 LetA (Obj.cells #[int i64 (0), int i64 (0), int i64 (0), int i64 (0), int i64 (0), int i64 (0), int i64 (0), int i64 (0), string ⟨#[]⟩, string ⟨#[]⟩, int i64 (0), int i64 (0), string ⟨#[]⟩, int i64 (0), int i64 (0), int i64 (0), int i64 (0), int i64 (0), int i64 (0), int i64 (0), string ⟨#[]⟩, string ⟨#[]⟩, int i64 (0), int i64 (0), slice none (0 : Nat) (0 : Nat), int i64 (0), int i64 (0), int i64 (0), int i64 (0)] (53 : Nat)) w486 fun b523 w524 =>
 (WrRow w524 ⟨b523, 0, none⟩ (0 : Nat) [int i64 n492, int i64 n493, int i64 n494, int i64 n495, int i64 n496, int i64 n497, int i64 n498, int i64 n499, string s500, string s501, int i64 n502, int i64 n503, string s504, int i64 n505, int i64 n506, int i64 n507, int i64 n508, int i64 n509, int i64 n510, int i64 n511, string s512, string s513, int i64 n514, int i64 n515, slice p516 k517 k518, int i64 n519, int i64 n520, int i64 n521, int i64 n522]) ∧
 LetW (setRow w524 ⟨b523, 0, none⟩ (0 : Nat) [int i64 n492, int i64 n493, int i64 n494, int i64 n495, int i64 n496, int i64 n497, int i64 n498, int i64 n499, string s500, string s501, int i64 n502, int i64 n503, string s504, int i64 n505, int i64 n506, int i64 n507, int i64 n508, int i64 n509, int i64 n510, int i64 n511, string s512, string s513, int i64 n514, int i64 n515, slice p516 k517 k518, int i64 n519, int i64 n520, int i64 n521, int i64 n522]) fun w525 =>
 ∃ n526 : Int,
 (w525.cell? ⟨b523, 0, none⟩ = some (int i64 n526)) ∧
 Br (n526 != (1 : Int))
 (R (returned (bool false)) w525)
 (∃ n527 : Int,
 (w525.cell? ⟨b523, 2, none⟩ = some (int i64 n527)) ∧
 Br (n527 != n66)
 (R (returned (bool false)) w525)
 (∃ n528 : Int,
 (w525.cell? ⟨b523, 3, none⟩ = some (int i64 n528)) ∧
 Br (n528 != n88)
 (R (returned (bool false)) w525)
 (∃ n529 : Int,
 (w525.cell? ⟨b523, 4, none⟩ = some (int i64 n529)) ∧
 Br (n529 != n490)
 (R (returned (bool false)) w525)
 (∃ n530 : Int,
 (w525.cell? ⟨b523, 1, none⟩ = some (int i64 n530)) ∧
 LetI (i64.wrap ((1 : Int) + n448)) fun n531 =>
 Br (n530 != n531)
 (R (returned (bool false)) w525)
 (NilOk p487 fun a532 =>
 ((
 (0 : Int) ≤ (0 : Int)) ∧
 (0 : Int) < (↑k488 : Int)) ∧
 ∃ n533 : Int,
 (w525.cell? a532 = some (int i64 n533)) ∧
 ((6 : Int) ≠ (0 : Int)) ∧
 LetI (n144.tmod (6 : Int)) fun n534 =>
 Br (n533 != n534)
 (R (returned (bool false)) w525)
 (I162 [bool false, bool b87, int i64 n88, int i64 n490, int i64 n90, int i64 n91, int i64 n448] w525)))))))
 (I162 [bool false, bool b87, int i64 n88, int i64 n89, int i64 n90, int i64 n91, int i64 n448] w486))
 (Br (n164 == (6 : Int))
 ((
 (2 : Int) ≠ (0 : Int)) ∧
 LetI (n144.tmod (2 : Int)) fun n535 =>
 LetI (i64.wrap (n88 - n535)) fun n536 =>
 Ca Try.prog (40 : Nat) #[pointer p83, agg #[int i64 (2), int i64 (0), int i64 n66, int i64 n536, int i64 (0), int i64 (0), int i64 (0), int i64 (0), string ⟨#[]⟩, string ⟨#[]⟩, int i64 (0), int i64 (1), string ⟨#[]⟩, int i64 (0), int i64 n142, int i64 (0), int i64 (0), int i64 (0), int i64 (0), int i64 (0), string ⟨#[]⟩, string ⟨#[]⟩, int i64 (0), int i64 (0), slice none (0 : Nat) (0 : Nat), int i64 (0), int i64 (0), int i64 (0), int i64 (0)], int i64 n91] w161 fun e537 w538 =>
 ∃ p539 : Option Addr,
 ∃ k540 : Nat,
 ∃ k541 : Nat,
 (e537 = returned (slice p539 k540 k541)) ∧
 I162 [bool false, bool b87, int i64 n88, int i64 n89, int i64 n90, int i64 n91, int i64 n92] w538)
 (Ca Try.prog (44 : Nat) #[pointer p83] w161 fun e542 w543 =>
 ∃ n544 : Int,
 (e542 = returned (int i64 n544)) ∧
 ((8 : Int) ≠ (0 : Int)) ∧
 LetI (n142.tmod (8 : Int)) fun n545 =>
 Br (n545 == (7 : Int))
 (LetI (i64.wrap (n544 - (1 : Int))) fun n546 =>
 ((10 : Int) ≠ (0 : Int)) ∧
 LetI (n144.tmod (10 : Int)) fun n547 =>
 LetI (i64.wrap ((1 : Int) + n547)) fun n548 =>
 Ca Try.prog (40 : Nat) #[pointer p83, agg #[int i64 (3), int i64 (0), int i64 n66, int i64 n88, int i64 n546, int i64 (0), int i64 (0), int i64 (0), string ⟨#[]⟩, string ⟨#[]⟩, int i64 (0), int i64 (0), string ⟨#[]⟩, int i64 (0), int i64 (0), int i64 n548, int i64 (0), int i64 (0), int i64 (0), int i64 (0), string ⟨#[]⟩, string ⟨#[]⟩, int i64 (0), int i64 (0), slice none (0 : Nat) (0 : Nat), int i64 (0), int i64 (0), int i64 (0), int i64 (0)], int i64 n91] w543 fun e549 w550 =>
 ∃ p551 : Option Addr,
 ∃ k552 : Nat,
 ∃ k553 : Nat,
 (e549 = returned (slice p551 k552 k553)) ∧
 Br (b159)
 (Br (n546 == n89)
 (Br (decide (n90 < n89))
 ((
 (10 : Int) ≠ (0 : Int)) ∧
 LetI (n144.tmod (10 : Int)) fun n554 =>
 LetI (i64.wrap ((1 : Int) + n554)) fun n555 =>
 Br (n555 != (6 : Int))
 (LetI (i64.wrap (n90 + (1 : Int))) fun n556 =>
 I162 [bool false, bool b87, int i64 n88, int i64 n89, int i64 n556, int i64 n91, int i64 n92] w550)
 (I162 [bool false, bool b87, int i64 n88, int i64 n89, int i64 n90, int i64 n91, int i64 n92] w550))
 (I162 [bool false, bool b87, int i64 n88, int i64 n89, int i64 n90, int i64 n91, int i64 n92] w550))
 (I162 [bool false, bool b87, int i64 n88, int i64 n89, int i64 n90, int i64 n91, int i64 n92] w550))
 (I162 [bool false, bool b87, int i64 n88, int i64 n89, int i64 n90, int i64 n91, int i64 n92] w550))
 ((
 (10 : Int) ≠ (0 : Int)) ∧
 LetI (n144.tmod (10 : Int)) fun n557 =>
 LetI (i64.wrap ((1 : Int) + n557)) fun n558 =>
 Ca Try.prog (40 : Nat) #[pointer p83, agg #[int i64 (3), int i64 (0), int i64 n66, int i64 n88, int i64 n544, int i64 (0), int i64 (0), int i64 (0), string ⟨#[]⟩, string ⟨#[]⟩, int i64 (0), int i64 (0), string ⟨#[]⟩, int i64 (0), int i64 (0), int i64 n558, int i64 (0), int i64 (0), int i64 (0), int i64 (0), string ⟨#[]⟩, string ⟨#[]⟩, int i64 (0), int i64 (0), slice none (0 : Nat) (0 : Nat), int i64 (0), int i64 (0), int i64 (0), int i64 (0)], int i64 n91] w543 fun e559 w560 =>
 ∃ p561 : Option Addr,
 ∃ k562 : Nat,
 ∃ k563 : Nat,
 (e559 = returned (slice p561 k562 k563)) ∧
 Br (b159)
 (Br (n544 == n89)
 (Br (decide (n90 < n89))
 ((
 (10 : Int) ≠ (0 : Int)) ∧
 LetI (n144.tmod (10 : Int)) fun n564 =>
 LetI (i64.wrap ((1 : Int) + n564)) fun n565 =>
 Br (n565 != (6 : Int))
 (LetI (i64.wrap (n90 + (1 : Int))) fun n566 =>
 I162 [bool false, bool b87, int i64 n88, int i64 n89, int i64 n566, int i64 n91, int i64 n92] w560)
 (I162 [bool false, bool b87, int i64 n88, int i64 n89, int i64 n90, int i64 n91, int i64 n92] w560))
 (I162 [bool false, bool b87, int i64 n88, int i64 n89, int i64 n90, int i64 n91, int i64 n92] w560))
 (I162 [bool false, bool b87, int i64 n88, int i64 n89, int i64 n90, int i64 n91, int i64 n92] w560))
 (I162 [bool false, bool b87, int i64 n88, int i64 n89, int i64 n90, int i64 n91, int i64 n92] w560)))))))))
 (Br (n164 == (1 : Int))
 (∃ n567 : Int,
 ∃ s568 : ByteArray,
 ∃ s569 : ByteArray,
 ∃ n570 : Int,
 (Row w161 ⟨b138, 3, none⟩ (0 : Nat) [int i64 n567, string s568, string s569, int i64 n570]) ∧
 ∃ p571 : Option Addr,
 ∃ k572 : Nat,
 ∃ k573 : Nat,
 (w161.cell? ⟨b19, 3, none⟩ = some (slice p571 k572 k573)) ∧
 ((↑k572 : Int) ≠ (0 : Int)) ∧
 LetI (n142.tmod (↑k572 : Int)) fun n574 =>
 LetI (i64.wrap (n91 + n144)) fun n575 =>
 Ca Try.prog (38 : Nat) #[pointer p83, agg #[int i64 n567, string s568, string s569, int i64 n570], int i64 n574, int i64 n575, int i64 n91] w161 fun e576 w577 =>
 ∃ p578 : Option Addr,
 ∃ k579 : Nat,
 ∃ k580 : Nat,
 ∃ n581 : Int,
 (e576 = returned (tuple #[slice p578 k579 k580, int i64 n581])) ∧
 Br (!(n581 == (63 : Int)) == b159)
 (R (returned (bool false)) w577)
 (Br (n581 == (0 : Int))
 (Br ((↑k579 : Int) != (1 : Int))
 (R (returned (bool false)) w577)
 (Br (n581 == (0 : Int))
 (LetI (i64.wrap (n88 + (1 : Int))) fun n582 =>
 NilOk p578 fun a583 =>
 ((
 (0 : Int) ≤ (0 : Int)) ∧
 (0 : Int) < (↑k579 : Int)) ∧
 ∃ n584 : Int,
 (w577.cell? (a583.add (1 : Nat)) = some (int i64 n584)) ∧
 Br (n584 == (1 : Int))
 (I162 [bool (n581 == (0 : Int)), bool b87, int i64 n582, int i64 (1), int i64 (0), int i64 n91, int i64 n92] w577)
 (I162 [bool (n581 == (0 : Int)), bool b87, int i64 n582, int i64 (0), int i64 (0), int i64 n91, int i64 n92] w577))
 (I162 [bool (n581 == (0 : Int)), bool b87, int i64 n88, int i64 n89, int i64 n90, int i64 n91, int i64 n92] w577)))
 (Br (n581 == (0 : Int))
 (LetI (i64.wrap (n88 + (1 : Int))) fun n585 =>
 NilOk p578 fun a586 =>
 ((
 (0 : Int) ≤ (0 : Int)) ∧
 (0 : Int) < (↑k579 : Int)) ∧
 ∃ n587 : Int,
 (w577.cell? (a586.add (1 : Nat)) = some (int i64 n587)) ∧
 Br (n587 == (1 : Int))
 (I162 [bool (n581 == (0 : Int)), bool b87, int i64 n585, int i64 (1), int i64 (0), int i64 n91, int i64 n92] w577)
 (I162 [bool (n581 == (0 : Int)), bool b87, int i64 n585, int i64 (0), int i64 (0), int i64 n91, int i64 n92] w577))
 (I162 [bool (n581 == (0 : Int)), bool b87, int i64 n88, int i64 n89, int i64 n90, int i64 n91, int i64 n92] w577))))
 (Br (n164 == (2 : Int))
 (Br (n164 == (2 : Int))
 ((
 (9 : Int) ≠ (0 : Int)) ∧
 LetI (n142.tmod (9 : Int)) fun n588 =>
 LetI (i64.wrap (n91 + n588)) fun n589 =>
 Ca Try.prog (41 : Nat) #[pointer p83, int i64 n589] w161 fun e590 w591 =>
 ∃ p592 : Option Addr,
 ∃ k593 : Nat,
 ∃ k594 : Nat,
 (e590 = returned (slice p592 k593 k594)) ∧
 I162 [bool false, bool b87, int i64 n88, int i64 n89, int i64 n90, int i64 n589, int i64 n92] w591)
 (Br (n164 == (5 : Int))
 ((
 (2 : Int) ≠ (0 : Int)) ∧
 LetI (n142.tmod (2 : Int)) fun n595 =>
 LetI (i64.wrap (n92 + n595)) fun n596 =>
 LetI (i64.wrap ((1 : Int) + n596)) fun n597 =>
 ((6 : Int) ≠ (0 : Int)) ∧
 LetI (n144.tmod (6 : Int)) fun n598 =>
 LetA (Obj.cells #[int i64 n598, int i64 (1)] (64 : Nat)) w161 fun b599 w600 =>
 (WrRow w600 ⟨b160, 0, none⟩ (0 : Nat) [int i64 (8), int i64 (0), int i64 (0), int i64 (0), int i64 (0), int i64 (0), int i64 (0), int i64 (0), string ⟨#[]⟩, string ⟨#[]⟩, int i64 (0), int i64 (0), string ⟨#[]⟩, int i64 (0), int i64 (0), int i64 (0), int i64 (0), int i64 (0), int i64 (0), int i64 (0), string ⟨#[]⟩, string ⟨#[]⟩, int i64 (0), int i64 n597, slice (some ⟨b599, 0, none⟩) (1 : Nat) (1 : Nat), int i64 (-1), int i64 (0), int i64 (0), int i64 (0)]) ∧
 LetW (setRow w600 ⟨b160, 0, none⟩ (0 : Nat) [int i64 (8), int i64 (0), int i64 (0), int i64 (0), int i64 (0), int i64 (0), int i64 (0), int i64 (0), string ⟨#[]⟩, string ⟨#[]⟩, int i64 (0), int i64 (0), string ⟨#[]⟩, int i64 (0), int i64 (0), int i64 (0), int i64 (0), int i64 (0), int i64 (0), int i64 (0), string ⟨#[]⟩, string ⟨#[]⟩, int i64 (0), int i64 n597, slice (some ⟨b599, 0, none⟩) (1 : Nat) (1 : Nat), int i64 (-1), int i64 (0), int i64 (0), int i64 (0)]) fun w601 =>
 ∃ n602 : Int,
 ∃ n603 : Int,
 ∃ n604 : Int,
 ∃ n605 : Int,
 ∃ n606 : Int,
 ∃ n607 : Int,
 ∃ n608 : Int,
 ∃ n609 : Int,
 ∃ s610 : ByteArray,
 ∃ s611 : ByteArray,
 ∃ n612 : Int,
 ∃ n613 : Int,
 ∃ s614 : ByteArray,
 ∃ n615 : Int,
 ∃ n616 : Int,
 ∃ n617 : Int,
 ∃ n618 : Int,
 ∃ n619 : Int,
 ∃ n620 : Int,
 ∃ n621 : Int,
 ∃ s622 : ByteArray,
 ∃ s623 : ByteArray,
 ∃ n624 : Int,
 ∃ n625 : Int,
 ∃ p626 : Option Addr,
 ∃ k627 : Nat,
 ∃ k628 : Nat,
 ∃ n629 : Int,
 ∃ n630 : Int,
 ∃ n631 : Int,
 ∃ n632 : Int,
 (Row w601 ⟨b160, 0, none⟩ (0 : Nat) [int i64 n602, int i64 n603, int i64 n604, int i64 n605, int i64 n606, int i64 n607, int i64 n608, int i64 n609, string s610, string s611, int i64 n612, int i64 n613, string s614, int i64 n615, int i64 n616, int i64 n617, int i64 n618, int i64 n619, int i64 n620, int i64 n621, string s622, string s623, int i64 n624, int i64 n625, slice p626 k627 k628, int i64 n629, int i64 n630, int i64 n631, int i64 n632]) ∧
 Ca Try.prog (40 : Nat) #[pointer p83, agg #[int i64 n602, int i64 n603, int i64 n604, int i64 n605, int i64 n606, int i64 n607, int i64 n608, int i64 n609, string s610, string s611, int i64 n612, int i64 n613, string s614, int i64 n615, int i64 n616, int i64 n617, int i64 n618, int i64 n619, int i64 n620, int i64 n621, string s622, string s623, int i64 n624, int i64 n625, slice p626 k627 k628, int i64 n629, int i64 n630, int i64 n631, int i64 n632], int i64 n91] w601 fun e633 w634 =>
 ∃ p635 : Option Addr,
 ∃ k636 : Nat,
 ∃ k637 : Nat,
 (e633 = returned (slice p635 k636 k637)) ∧
 Br ((↑k636 : Int) == (1 : Int))
 (LetI (i64.wrap (n89 + (1 : Int))) fun n638 =>
 NilOk p635 fun a639 =>
 ((
 (0 : Int) ≤ (0 : Int)) ∧
 (0 : Int) < (↑k636 : Int)) ∧
 ∃ n640 : Int,
 ∃ n641 : Int,
 ∃ n642 : Int,
 ∃ n643 : Int,
 ∃ n644 : Int,
 ∃ n645 : Int,
 ∃ n646 : Int,
 ∃ n647 : Int,
 ∃ s648 : ByteArray,
 ∃ s649 : ByteArray,
 ∃ n650 : Int,
 ∃ n651 : Int,
 ∃ s652 : ByteArray,
 ∃ n653 : Int,
 ∃ n654 : Int,
 ∃ n655 : Int,
 ∃ n656 : Int,
 ∃ n657 : Int,
 ∃ n658 : Int,
 ∃ n659 : Int,
 ∃ s660 : ByteArray,
 ∃ s661 : ByteArray,
 ∃ n662 : Int,
 ∃ n663 : Int,
 ∃ p664 : Option Addr,
 ∃ k665 : Nat,
 ∃ k666 : Nat,
 ∃ n667 : Int,
 ∃ n668 : Int,
 ∃ n669 : Int,
 ∃ n670 : Int,
 (Row w634 (a639.add (1 : Nat)) (0 : Nat) [int i64 n640, int i64 n641, int i64 n642, int i64 n643, int i64 n644, int i64 n645, int i64 n646, int i64 n647, string s648, string s649, int i64 n650, int i64 n651, string s652, int i64 n653, int i64 n654, int i64 n655, int i64 n656, int i64 n657, int i64 n658, int i64 n659, string s660, string s661, int i64 n662, int i64 n663, slice p664 k665 k666, int i64 n667, int i64 n668, int i64 n669, int i64 n670]) ∧
 LetA (Obj.cells #[int i64 (0), int i64 (0), int i64 (0), int i64 (0), int i64 (0), int i64 (0), int i64 (0), int i64 (0), string ⟨#[]⟩, string ⟨#[]⟩, int i64 (0), int i64 (0), string ⟨#[]⟩, int i64 (0), int i64 (0), int i64 (0), int i64 (0), int i64 (0), int i64 (0), int i64 (0), string ⟨#[]⟩, string ⟨#[]⟩, int i64 (0), int i64 (0), slice none (0 : Nat) (0 : Nat), int i64 (0), int i64 (0), int i64 (0), int i64 (0)] (53 : Nat)) w634 fun b671 w672 =>
 (WrRow w672 ⟨b671, 0, none⟩ (0 : Nat) [int i64 n640, int i64 n641, int i64 n642, int i64 n643, int i64 n644, int i64 n645, int i64 n646, int i64 n647, string s648, string s649, int i64 n650, int i64 n651, string s652, int i64 n653, int i64 n654, int i64 n655, int i64 n656, int i64 n657, int i64 n658, int i64 n659, string s660, string s661, int i64 n662, int i64 n663, slice p664 k665 k666, int i64 n667, int i64 n668, int i64 n669, int i64 n670]) ∧
 LetW (setRow w672 ⟨b671, 0, none⟩ (0 : Nat) [int i64 n640, int i64 n641, int i64 n642, int i64 n643, int i64 n644, int i64 n645, int i64 n646, int i64 n647, string s648, string s649, int i64 n650, int i64 n651, string s652, int i64 n653, int i64 n654, int i64 n655, int i64 n656, int i64 n657, int i64 n658, int i64 n659, string s660, string s661, int i64 n662, int i64 n663, slice p664 k665 k666, int i64 n667, int i64 n668, int i64 n669, int i64 n670]) fun w673 =>
 ∃ n674 : Int,
 (w673.cell? ⟨b671, 0, none⟩ = some (int i64 n674)) ∧
 Br (n674 != (1 : Int))
 (R (returned (bool false)) w673)
 (∃ n675 : Int,
 (w673.cell? ⟨b671, 2, none⟩ = some (int i64 n675)) ∧
 Br (n675 != n66)
 (R (returned (bool false)) w673)
 (∃ n676 : Int,
 (w673.cell? ⟨b671, 3, none⟩ = some (int i64 n676)) ∧
 Br (n676 != n88)
 (R (returned (bool false)) w673)
 (∃ n677 : Int,
 (w673.cell? ⟨b671, 4, none⟩ = some (int i64 n677)) ∧
 Br (n677 != n638)
 (R (returned (bool false)) w673)
 (∃ n678 : Int,
 (w673.cell? ⟨b671, 1, none⟩ = some (int i64 n678)) ∧
 LetI (i64.wrap ((1 : Int) + n596)) fun n679 =>
 Br (n678 != n679)
 (R (returned (bool false)) w673)
 (NilOk p635 fun a680 =>
 ((
 (0 : Int) ≤ (0 : Int)) ∧
 (0 : Int) < (↑k636 : Int)) ∧
 ∃ n681 : Int,
 (w673.cell? a680 = some (int i64 n681)) ∧
 ((6 : Int) ≠ (0 : Int)) ∧
 LetI (n144.tmod (6 : Int)) fun n682 =>
 Br (n681 != n682)
 (R (returned (bool false)) w673)
 (I162 [bool false, bool b87, int i64 n88, int i64 n638, int i64 n90, int i64 n91, int i64 n596] w673)))))))
 (I162 [bool false, bool b87, int i64 n88, int i64 n89, int i64 n90, int i64 n91, int i64 n596] w634))
 (Br (n164 == (6 : Int))
 ((
 (2 : Int) ≠ (0 : Int)) ∧
 LetI (n144.tmod (2 : Int)) fun n683 =>
 LetI (i64.wrap (n88 - n683)) fun n684 =>
 Ca Try.prog (40 : Nat) #[pointer p83, agg #[int i64 (2), int i64 (0), int i64 n66, int i64 n684, int i64 (0), int i64 (0), int i64 (0), int i64 (0), string ⟨#[]⟩, string ⟨#[]⟩, int i64 (0), int i64 (1), string ⟨#[]⟩, int i64 (0), int i64 n142, int i64 (0), int i64 (0), int i64 (0), int i64 (0), int i64 (0), string ⟨#[]⟩, string ⟨#[]⟩, int i64 (0), int i64 (0), slice none (0 : Nat) (0 : Nat), int i64 (0), int i64 (0), int i64 (0), int i64 (0)], int i64 n91] w161 fun e685 w686 =>
 ∃ p687 : Option Addr,
 ∃ k688 : Nat,
 ∃ k689 : Nat,
 (e685 = returned (slice p687 k688 k689)) ∧
 I162 [bool false, bool b87, int i64 n88, int i64 n89, int i64 n90, int i64 n91, int i64 n92] w686)
 (Ca Try.prog (44 : Nat) #[pointer p83] w161 fun e690 w691 =>
 ∃ n692 : Int,
 (e690 = returned (int i64 n692)) ∧
 ((8 : Int) ≠ (0 : Int)) ∧
 LetI (n142.tmod (8 : Int)) fun n693 =>
 Br (n693 == (7 : Int))
 (LetI (i64.wrap (n692 - (1 : Int))) fun n694 =>
 ((10 : Int) ≠ (0 : Int)) ∧
 LetI (n144.tmod (10 : Int)) fun n695 =>
 LetI (i64.wrap ((1 : Int) + n695)) fun n696 =>
 Ca Try.prog (40 : Nat) #[pointer p83, agg #[int i64 (3), int i64 (0), int i64 n66, int i64 n88, int i64 n694, int i64 (0), int i64 (0), int i64 (0), string ⟨#[]⟩, string ⟨#[]⟩, int i64 (0), int i64 (0), string ⟨#[]⟩, int i64 (0), int i64 (0), int i64 n696, int i64 (0), int i64 (0), int i64 (0), int i64 (0), string ⟨#[]⟩, string ⟨#[]⟩, int i64 (0), int i64 (0), slice none (0 : Nat) (0 : Nat), int i64 (0), int i64 (0), int i64 (0), int i64 (0)], int i64 n91] w691 fun e697 w698 =>
 ∃ p699 : Option Addr,
 ∃ k700 : Nat,
 ∃ k701 : Nat,
 (e697 = returned (slice p699 k700 k701)) ∧
 Br (b159)
 (Br (n694 == n89)
 (Br (decide (n90 < n89))
 ((
 (10 : Int) ≠ (0 : Int)) ∧
 LetI (n144.tmod (10 : Int)) fun n702 =>
 LetI (i64.wrap ((1 : Int) + n702)) fun n703 =>
 Br (n703 != (6 : Int))
 (LetI (i64.wrap (n90 + (1 : Int))) fun n704 =>
 I162 [bool false, bool b87, int i64 n88, int i64 n89, int i64 n704, int i64 n91, int i64 n92] w698)
 (I162 [bool false, bool b87, int i64 n88, int i64 n89, int i64 n90, int i64 n91, int i64 n92] w698))
 (I162 [bool false, bool b87, int i64 n88, int i64 n89, int i64 n90, int i64 n91, int i64 n92] w698))
 (I162 [bool false, bool b87, int i64 n88, int i64 n89, int i64 n90, int i64 n91, int i64 n92] w698))
 (I162 [bool false, bool b87, int i64 n88, int i64 n89, int i64 n90, int i64 n91, int i64 n92] w698))
 ((
 (10 : Int) ≠ (0 : Int)) ∧
 LetI (n144.tmod (10 : Int)) fun n705 =>
 LetI (i64.wrap ((1 : Int) + n705)) fun n706 =>
 Ca Try.prog (40 : Nat) #[pointer p83, agg #[int i64 (3), int i64 (0), int i64 n66, int i64 n88, int i64 n692, int i64 (0), int i64 (0), int i64 (0), string ⟨#[]⟩, string ⟨#[]⟩, int i64 (0), int i64 (0), string ⟨#[]⟩, int i64 (0), int i64 (0), int i64 n706, int i64 (0), int i64 (0), int i64 (0), int i64 (0), string ⟨#[]⟩, string ⟨#[]⟩, int i64 (0), int i64 (0), slice none (0 : Nat) (0 : Nat), int i64 (0), int i64 (0), int i64 (0), int i64 (0)], int i64 n91] w691 fun e707 w708 =>
 ∃ p709 : Option Addr,
 ∃ k710 : Nat,
 ∃ k711 : Nat,
 (e707 = returned (slice p709 k710 k711)) ∧
 Br (b159)
 (Br (n692 == n89)
 (Br (decide (n90 < n89))
 ((
 (10 : Int) ≠ (0 : Int)) ∧
 LetI (n144.tmod (10 : Int)) fun n712 =>
 LetI (i64.wrap ((1 : Int) + n712)) fun n713 =>
 Br (n713 != (6 : Int))
 (LetI (i64.wrap (n90 + (1 : Int))) fun n714 =>
 I162 [bool false, bool b87, int i64 n88, int i64 n89, int i64 n714, int i64 n91, int i64 n92] w708)
 (I162 [bool false, bool b87, int i64 n88, int i64 n89, int i64 n90, int i64 n91, int i64 n92] w708))
 (I162 [bool false, bool b87, int i64 n88, int i64 n89, int i64 n90, int i64 n91, int i64 n92] w708))
 (I162 [bool false, bool b87, int i64 n88, int i64 n89, int i64 n90, int i64 n91, int i64 n92] w708))
 (I162 [bool false, bool b87, int i64 n88, int i64 n89, int i64 n90, int i64 n91, int i64 n92] w708))))))
 (Br (n164 == (3 : Int))
 (Br (n164 == (3 : Int))
 ((
 (9 : Int) ≠ (0 : Int)) ∧
 LetI (n142.tmod (9 : Int)) fun n715 =>
 LetI (i64.wrap (n91 + n715)) fun n716 =>
 Ca Try.prog (41 : Nat) #[pointer p83, int i64 n716] w161 fun e717 w718 =>
 ∃ p719 : Option Addr,
 ∃ k720 : Nat,
 ∃ k721 : Nat,
 (e717 = returned (slice p719 k720 k721)) ∧
 I162 [bool false, bool b87, int i64 n88, int i64 n89, int i64 n90, int i64 n716, int i64 n92] w718)
 (Br (n164 == (5 : Int))
 ((
 (2 : Int) ≠ (0 : Int)) ∧
 LetI (n142.tmod (2 : Int)) fun n722 =>
 LetI (i64.wrap (n92 + n722)) fun n723 =>
 LetI (i64.wrap ((1 : Int) + n723)) fun n724 =>
 ((6 : Int) ≠ (0 : Int)) ∧
 LetI (n144.tmod (6 : Int)) fun n725 =>
 LetA (Obj.cells #[int i64 n725, int i64 (1)] (64 : Nat)) w161 fun b726 w727 =>
 (WrRow w727 ⟨b160, 0, none⟩ (0 : Nat) [int i64 (8), int i64 (0), int i64 (0), int i64 (0), int i64 (0), int i64 (0), int i64 (0), int i64 (0), string ⟨#[]⟩, string ⟨#[]⟩, int i64 (0), int i64 (0), string ⟨#[]⟩, int i64 (0), int i64 (0), int i64 (0), int i64 (0), int i64 (0), int i64 (0), int i64 (0), string ⟨#[]⟩, string ⟨#[]⟩, int i64 (0), int i64 n724, slice (some ⟨b726, 0, none⟩) (1 : Nat) (1 : Nat), int i64 (-1), int i64 (0), int i64 (0), int i64 (0)]) ∧
 LetW (setRow w727 ⟨b160, 0, none⟩ (0 : Nat) [int i64 (8), int i64 (0), int i64 (0), int i64 (0), int i64 (0), int i64 (0), int i64 (0), int i64 (0), string ⟨#[]⟩, string ⟨#[]⟩, int i64 (0), int i64 (0), string ⟨#[]⟩, int i64 (0), int i64 (0), int i64 (0), int i64 (0), int i64 (0), int i64 (0), int i64 (0), string ⟨#[]⟩, string ⟨#[]⟩, int i64 (0), int i64 n724, slice (some ⟨b726, 0, none⟩) (1 : Nat) (1 : Nat), int i64 (-1), int i64 (0), int i64 (0), int i64 (0)]) fun w728 =>
 ∃ n729 : Int,
 ∃ n730 : Int,
 ∃ n731 : Int,
 ∃ n732 : Int,
 ∃ n733 : Int,
 ∃ n734 : Int,
 ∃ n735 : Int,
 ∃ n736 : Int,
 ∃ s737 : ByteArray,
 ∃ s738 : ByteArray,
 ∃ n739 : Int,
 ∃ n740 : Int,
 ∃ s741 : ByteArray,
 ∃ n742 : Int,
 ∃ n743 : Int,
 ∃ n744 : Int,
 ∃ n745 : Int,
 ∃ n746 : Int,
 ∃ n747 : Int,
 ∃ n748 : Int,
 ∃ s749 : ByteArray,
 ∃ s750 : ByteArray,
 ∃ n751 : Int,
 ∃ n752 : Int,
 ∃ p753 : Option Addr,
 ∃ k754 : Nat,
 ∃ k755 : Nat,
 ∃ n756 : Int,
 ∃ n757 : Int,
 ∃ n758 : Int,
 ∃ n759 : Int,
 (Row w728 ⟨b160, 0, none⟩ (0 : Nat) [int i64 n729, int i64 n730, int i64 n731, int i64 n732, int i64 n733, int i64 n734, int i64 n735, int i64 n736, string s737, string s738, int i64 n739, int i64 n740, string s741, int i64 n742, int i64 n743, int i64 n744, int i64 n745, int i64 n746, int i64 n747, int i64 n748, string s749, string s750, int i64 n751, int i64 n752, slice p753 k754 k755, int i64 n756, int i64 n757, int i64 n758, int i64 n759]) ∧
 Ca Try.prog (40 : Nat) #[pointer p83, agg #[int i64 n729, int i64 n730, int i64 n731, int i64 n732, int i64 n733, int i64 n734, int i64 n735, int i64 n736, string s737, string s738, int i64 n739, int i64 n740, string s741, int i64 n742, int i64 n743, int i64 n744, int i64 n745, int i64 n746, int i64 n747, int i64 n748, string s749, string s750, int i64 n751, int i64 n752, slice p753 k754 k755, int i64 n756, int i64 n757, int i64 n758, int i64 n759], int i64 n91] w728 fun e760 w761 =>
 ∃ p762 : Option Addr,
 ∃ k763 : Nat,
 ∃ k764 : Nat,
 (e760 = returned (slice p762 k763 k764)) ∧
 Br ((↑k763 : Int) == (1 : Int))
 (LetI (i64.wrap (n89 + (1 : Int))) fun n765 =>
 NilOk p762 fun a766 =>
 ((
 (0 : Int) ≤ (0 : Int)) ∧
 (0 : Int) < (↑k763 : Int)) ∧
 ∃ n767 : Int,
 ∃ n768 : Int,
 ∃ n769 : Int,
 ∃ n770 : Int,
 ∃ n771 : Int,
 ∃ n772 : Int,
 ∃ n773 : Int,
 ∃ n774 : Int,
 ∃ s775 : ByteArray,
 ∃ s776 : ByteArray,
 ∃ n777 : Int,
 ∃ n778 : Int,
 ∃ s779 : ByteArray,
 ∃ n780 : Int,
 ∃ n781 : Int,
 ∃ n782 : Int,
 ∃ n783 : Int,
 ∃ n784 : Int,
 ∃ n785 : Int,
 ∃ n786 : Int,
 ∃ s787 : ByteArray,
 ∃ s788 : ByteArray,
 ∃ n789 : Int,
 ∃ n790 : Int,
 ∃ p791 : Option Addr,
 ∃ k792 : Nat,
 ∃ k793 : Nat,
 ∃ n794 : Int,
 ∃ n795 : Int,
 ∃ n796 : Int,
 ∃ n797 : Int,
 (Row w761 (a766.add (1 : Nat)) (0 : Nat) [int i64 n767, int i64 n768, int i64 n769, int i64 n770, int i64 n771, int i64 n772, int i64 n773, int i64 n774, string s775, string s776, int i64 n777, int i64 n778, string s779, int i64 n780, int i64 n781, int i64 n782, int i64 n783, int i64 n784, int i64 n785, int i64 n786, string s787, string s788, int i64 n789, int i64 n790, slice p791 k792 k793, int i64 n794, int i64 n795, int i64 n796, int i64 n797]) ∧
 LetA (Obj.cells #[int i64 (0), int i64 (0), int i64 (0), int i64 (0), int i64 (0), int i64 (0), int i64 (0), int i64 (0), string ⟨#[]⟩, string ⟨#[]⟩, int i64 (0), int i64 (0), string ⟨#[]⟩, int i64 (0), int i64 (0), int i64 (0), int i64 (0), int i64 (0), int i64 (0), int i64 (0), string ⟨#[]⟩, string ⟨#[]⟩, int i64 (0), int i64 (0), slice none (0 : Nat) (0 : Nat), int i64 (0), int i64 (0), int i64 (0), int i64 (0)] (53 : Nat)) w761 fun b798 w799 =>
 (WrRow w799 ⟨b798, 0, none⟩ (0 : Nat) [int i64 n767, int i64 n768, int i64 n769, int i64 n770, int i64 n771, int i64 n772, int i64 n773, int i64 n774, string s775, string s776, int i64 n777, int i64 n778, string s779, int i64 n780, int i64 n781, int i64 n782, int i64 n783, int i64 n784, int i64 n785, int i64 n786, string s787, string s788, int i64 n789, int i64 n790, slice p791 k792 k793, int i64 n794, int i64 n795, int i64 n796, int i64 n797]) ∧
 LetW (setRow w799 ⟨b798, 0, none⟩ (0 : Nat) [int i64 n767, int i64 n768, int i64 n769, int i64 n770, int i64 n771, int i64 n772, int i64 n773, int i64 n774, string s775, string s776, int i64 n777, int i64 n778, string s779, int i64 n780, int i64 n781, int i64 n782, int i64 n783, int i64 n784, int i64 n785, int i64 n786, string s787, string s788, int i64 n789, int i64 n790, slice p791 k792 k793, int i64 n794, int i64 n795, int i64 n796, int i64 n797]) fun w800 =>
 ∃ n801 : Int,
 (w800.cell? ⟨b798, 0, none⟩ = some (int i64 n801)) ∧
 Br (n801 != (1 : Int))
 (R (returned (bool false)) w800)
 (∃ n802 : Int,
 (w800.cell? ⟨b798, 2, none⟩ = some (int i64 n802)) ∧
 Br (n802 != n66)
 (R (returned (bool false)) w800)
 (∃ n803 : Int,
 (w800.cell? ⟨b798, 3, none⟩ = some (int i64 n803)) ∧
 Br (n803 != n88)
 (R (returned (bool false)) w800)
 (∃ n804 : Int,
 (w800.cell? ⟨b798, 4, none⟩ = some (int i64 n804)) ∧
 Br (n804 != n765)
 (R (returned (bool false)) w800)
 (∃ n805 : Int,
 (w800.cell? ⟨b798, 1, none⟩ = some (int i64 n805)) ∧
 LetI (i64.wrap ((1 : Int) + n723)) fun n806 =>
 Br (n805 != n806)
 (R (returned (bool false)) w800)
 (NilOk p762 fun a807 =>
 ((
 (0 : Int) ≤ (0 : Int)) ∧
 (0 : Int) < (↑k763 : Int)) ∧
 ∃ n808 : Int,
 (w800.cell? a807 = some (int i64 n808)) ∧
 ((6 : Int) ≠ (0 : Int)) ∧
 LetI (n144.tmod (6 : Int)) fun n809 =>
 Br (n808 != n809)
 (R (returned (bool false)) w800)
 (I162 [bool false, bool b87, int i64 n88, int i64 n765, int i64 n90, int i64 n91, int i64 n723] w800)))))))
 (I162 [bool false, bool b87, int i64 n88, int i64 n89, int i64 n90, int i64 n91, int i64 n723] w761))
 (Br (n164 == (6 : Int))
 ((
 (2 : Int) ≠ (0 : Int)) ∧
 LetI (n144.tmod (2 : Int)) fun n810 =>
 LetI (i64.wrap (n88 - n810)) fun n811 =>
 Ca Try.prog (40 : Nat) #[pointer p83, agg #[int i64 (2), int i64 (0), int i64 n66, int i64 n811, int i64 (0), int i64 (0), int i64 (0), int i64 (0), string ⟨#[]⟩, string ⟨#[]⟩, int i64 (0), int i64 (1), string ⟨#[]⟩, int i64 (0), int i64 n142, int i64 (0), int i64 (0), int i64 (0), int i64 (0), int i64 (0), string ⟨#[]⟩, string ⟨#[]⟩, int i64 (0), int i64 (0), slice none (0 : Nat) (0 : Nat), int i64 (0), int i64 (0), int i64 (0), int i64 (0)], int i64 n91] w161 fun e812 w813 =>
 ∃ p814 : Option Addr,
 ∃ k815 : Nat,
 ∃ k816 : Nat,
 (e812 = returned (slice p814 k815 k816)) ∧
 I162 [bool false, bool b87, int i64 n88, int i64 n89, int i64 n90, int i64 n91, int i64 n92] w813)
 (Ca Try.prog (44 : Nat) #[pointer p83] w161 fun e817 w818 =>
 ∃ n819 : Int,
 (e817 = returned (int i64 n819)) ∧
 ((8 : Int) ≠ (0 : Int)) ∧
 LetI (n142.tmod (8 : Int)) fun n820 =>
 Br (n820 == (7 : Int))
 (LetI (i64.wrap (n819 - (1 : Int))) fun n821 =>
 ((10 : Int) ≠ (0 : Int)) ∧
 LetI (n144.tmod (10 : Int)) fun n822 =>
 LetI (i64.wrap ((1 : Int) + n822)) fun n823 =>
 Ca Try.prog (40 : Nat) #[pointer p83, agg #[int i64 (3), int i64 (0), int i64 n66, int i64 n88, int i64 n821, int i64 (0), int i64 (0), int i64 (0), string ⟨#[]⟩, string ⟨#[]⟩, int i64 (0), int i64 (0), string ⟨#[]⟩, int i64 (0), int i64 (0), int i64 n823, int i64 (0), int i64 (0), int i64 (0), int i64 (0), string ⟨#[]⟩, string ⟨#[]⟩, int i64 (0), int i64 (0), slice none (0 : Nat) (0 : Nat), int i64 (0), int i64 (0), int i64 (0), int i64 (0)], int i64 n91] w818 fun e824 w825 =>
 ∃ p826 : Option Addr,
 ∃ k827 : Nat,
 ∃ k828 : Nat,
 (e824 = returned (slice p826 k827 k828)) ∧
 Br (b159)
 (Br (n821 == n89)
 (Br (decide (n90 < n89))
 ((
 (10 : Int) ≠ (0 : Int)) ∧
 LetI (n144.tmod (10 : Int)) fun n829 =>
 LetI (i64.wrap ((1 : Int) + n829)) fun n830 =>
 Br (n830 != (6 : Int))
 (LetI (i64.wrap (n90 + (1 : Int))) fun n831 =>
 I162 [bool false, bool b87, int i64 n88, int i64 n89, int i64 n831, int i64 n91, int i64 n92] w825)
 (I162 [bool false, bool b87, int i64 n88, int i64 n89, int i64 n90, int i64 n91, int i64 n92] w825))
 (I162 [bool false, bool b87, int i64 n88, int i64 n89, int i64 n90, int i64 n91, int i64 n92] w825))
 (I162 [bool false, bool b87, int i64 n88, int i64 n89, int i64 n90, int i64 n91, int i64 n92] w825))
 (I162 [bool false, bool b87, int i64 n88, int i64 n89, int i64 n90, int i64 n91, int i64 n92] w825))
 ((
 (10 : Int) ≠ (0 : Int)) ∧
 LetI (n144.tmod (10 : Int)) fun n832 =>
 LetI (i64.wrap ((1 : Int) + n832)) fun n833 =>
 Ca Try.prog (40 : Nat) #[pointer p83, agg #[int i64 (3), int i64 (0), int i64 n66, int i64 n88, int i64 n819, int i64 (0), int i64 (0), int i64 (0), string ⟨#[]⟩, string ⟨#[]⟩, int i64 (0), int i64 (0), string ⟨#[]⟩, int i64 (0), int i64 (0), int i64 n833, int i64 (0), int i64 (0), int i64 (0), int i64 (0), string ⟨#[]⟩, string ⟨#[]⟩, int i64 (0), int i64 (0), slice none (0 : Nat) (0 : Nat), int i64 (0), int i64 (0), int i64 (0), int i64 (0)], int i64 n91] w818 fun e834 w835 =>
 ∃ p836 : Option Addr,
 ∃ k837 : Nat,
 ∃ k838 : Nat,
 (e834 = returned (slice p836 k837 k838)) ∧
 Br (b159)
 (Br (n819 == n89)
 (Br (decide (n90 < n89))
 ((
 (10 : Int) ≠ (0 : Int)) ∧
 LetI (n144.tmod (10 : Int)) fun n839 =>
 LetI (i64.wrap ((1 : Int) + n839)) fun n840 =>
 Br (n840 != (6 : Int))
 (LetI (i64.wrap (n90 + (1 : Int))) fun n841 =>
 I162 [bool false, bool b87, int i64 n88, int i64 n89, int i64 n841, int i64 n91, int i64 n92] w835)
 (I162 [bool false, bool b87, int i64 n88, int i64 n89, int i64 n90, int i64 n91, int i64 n92] w835))
 (I162 [bool false, bool b87, int i64 n88, int i64 n89, int i64 n90, int i64 n91, int i64 n92] w835))
 (I162 [bool false, bool b87, int i64 n88, int i64 n89, int i64 n90, int i64 n91, int i64 n92] w835))
 (I162 [bool false, bool b87, int i64 n88, int i64 n89, int i64 n90, int i64 n91, int i64 n92] w835))))))
 (Br (n164 == (4 : Int))
 ((
 (9 : Int) ≠ (0 : Int)) ∧
 LetI (n142.tmod (9 : Int)) fun n842 =>
 LetI (i64.wrap (n91 + n842)) fun n843 =>
 Ca Try.prog (41 : Nat) #[pointer p83, int i64 n843] w161 fun e844 w845 =>
 ∃ p846 : Option Addr,
 ∃ k847 : Nat,
 ∃ k848 : Nat,
 (e844 = returned (slice p846 k847 k848)) ∧
 I162 [bool false, bool b87, int i64 n88, int i64 n89, int i64 n90, int i64 n843, int i64 n92] w845)
 (Br (n164 == (5 : Int))
 ((
 (2 : Int) ≠ (0 : Int)) ∧
 LetI (n142.tmod (2 : Int)) fun n849 =>
 LetI (i64.wrap (n92 + n849)) fun n850 =>
 LetI (i64.wrap ((1 : Int) + n850)) fun n851 =>
 ((6 : Int) ≠ (0 : Int)) ∧
 LetI (n144.tmod (6 : Int)) fun n852 =>
 LetA (Obj.cells #[int i64 n852, int i64 (1)] (64 : Nat)) w161 fun b853 w854 =>
 (WrRow w854 ⟨b160, 0, none⟩ (0 : Nat) [int i64 (8), int i64 (0), int i64 (0), int i64 (0), int i64 (0), int i64 (0), int i64 (0), int i64 (0), string ⟨#[]⟩, string ⟨#[]⟩, int i64 (0), int i64 (0), string ⟨#[]⟩, int i64 (0), int i64 (0), int i64 (0), int i64 (0), int i64 (0), int i64 (0), int i64 (0), string ⟨#[]⟩, string ⟨#[]⟩, int i64 (0), int i64 n851, slice (some ⟨b853, 0, none⟩) (1 : Nat) (1 : Nat), int i64 (-1), int i64 (0), int i64 (0), int i64 (0)]) ∧
 LetW (setRow w854 ⟨b160, 0, none⟩ (0 : Nat) [int i64 (8), int i64 (0), int i64 (0), int i64 (0), int i64 (0), int i64 (0), int i64 (0), int i64 (0), string ⟨#[]⟩, string ⟨#[]⟩, int i64 (0), int i64 (0), string ⟨#[]⟩, int i64 (0), int i64 (0), int i64 (0), int i64 (0), int i64 (0), int i64 (0), int i64 (0), string ⟨#[]⟩, string ⟨#[]⟩, int i64 (0), int i64 n851, slice (some ⟨b853, 0, none⟩) (1 : Nat) (1 : Nat), int i64 (-1), int i64 (0), int i64 (0), int i64 (0)]) fun w855 =>
 ∃ n856 : Int,
 ∃ n857 : Int,
 ∃ n858 : Int,
 ∃ n859 : Int,
 ∃ n860 : Int,
 ∃ n861 : Int,
 ∃ n862 : Int,
 ∃ n863 : Int,
 ∃ s864 : ByteArray,
 ∃ s865 : ByteArray,
 ∃ n866 : Int,
 ∃ n867 : Int,
 ∃ s868 : ByteArray,
 ∃ n869 : Int,
 ∃ n870 : Int,
 ∃ n871 : Int,
 ∃ n872 : Int,
 ∃ n873 : Int,
 ∃ n874 : Int,
 ∃ n875 : Int,
 ∃ s876 : ByteArray,
 ∃ s877 : ByteArray,
 ∃ n878 : Int,
 ∃ n879 : Int,
 ∃ p880 : Option Addr,
 ∃ k881 : Nat,
 ∃ k882 : Nat,
 ∃ n883 : Int,
 ∃ n884 : Int,
 ∃ n885 : Int,
 ∃ n886 : Int,
 (Row w855 ⟨b160, 0, none⟩ (0 : Nat) [int i64 n856, int i64 n857, int i64 n858, int i64 n859, int i64 n860, int i64 n861, int i64 n862, int i64 n863, string s864, string s865, int i64 n866, int i64 n867, string s868, int i64 n869, int i64 n870, int i64 n871, int i64 n872, int i64 n873, int i64 n874, int i64 n875, string s876, string s877, int i64 n878, int i64 n879, slice p880 k881 k882, int i64 n883, int i64 n884, int i64 n885, int i64 n886]) ∧
 Ca Try.prog (40 : Nat) #[pointer p83, agg #[int i64 n856, int i64 n857, int i64 n858, int i64 n859, int i64 n860, int i64 n861, int i64 n862, int i64 n863, string s864, string s865, int i64 n866, int i64 n867, string s868, int i64 n869, int i64 n870, int i64 n871, int i64 n872, int i64 n873, int i64 n874, int i64 n875, string s876, string s877, int i64 n878, int i64 n879, slice p880 k881 k882, int i64 n883, int i64 n884, int i64 n885, int i64 n886], int i64 n91] w855 fun e887 w888 =>
 ∃ p889 : Option Addr,
 ∃ k890 : Nat,
 ∃ k891 : Nat,
 (e887 = returned (slice p889 k890 k891)) ∧
 Br ((↑k890 : Int) == (1 : Int))
 (LetI (i64.wrap (n89 + (1 : Int))) fun n892 =>
 NilOk p889 fun a893 =>
 ((
 (0 : Int) ≤ (0 : Int)) ∧
 (0 : Int) < (↑k890 : Int)) ∧
 ∃ n894 : Int,
 ∃ n895 : Int,
 ∃ n896 : Int,
 ∃ n897 : Int,
 ∃ n898 : Int,
 ∃ n899 : Int,
 ∃ n900 : Int,
 ∃ n901 : Int,
 ∃ s902 : ByteArray,
 ∃ s903 : ByteArray,
 ∃ n904 : Int,
 ∃ n905 : Int,
 ∃ s906 : ByteArray,
 ∃ n907 : Int,
 ∃ n908 : Int,
 ∃ n909 : Int,
 ∃ n910 : Int,
 ∃ n911 : Int,
 ∃ n912 : Int,
 ∃ n913 : Int,
 ∃ s914 : ByteArray,
 ∃ s915 : ByteArray,
 ∃ n916 : Int,
 ∃ n917 : Int,
 ∃ p918 : Option Addr,
 ∃ k919 : Nat,
 ∃ k920 : Nat,
 ∃ n921 : Int,
 ∃ n922 : Int,
 ∃ n923 : Int,
 ∃ n924 : Int,
 (Row w888 (a893.add (1 : Nat)) (0 : Nat) [int i64 n894, int i64 n895, int i64 n896, int i64 n897, int i64 n898, int i64 n899, int i64 n900, int i64 n901, string s902, string s903, int i64 n904, int i64 n905, string s906, int i64 n907, int i64 n908, int i64 n909, int i64 n910, int i64 n911, int i64 n912, int i64 n913, string s914, string s915, int i64 n916, int i64 n917, slice p918 k919 k920, int i64 n921, int i64 n922, int i64 n923, int i64 n924]) ∧
 LetA (Obj.cells #[int i64 (0), int i64 (0), int i64 (0), int i64 (0), int i64 (0), int i64 (0), int i64 (0), int i64 (0), string ⟨#[]⟩, string ⟨#[]⟩, int i64 (0), int i64 (0), string ⟨#[]⟩, int i64 (0), int i64 (0), int i64 (0), int i64 (0), int i64 (0), int i64 (0), int i64 (0), string ⟨#[]⟩, string ⟨#[]⟩, int i64 (0), int i64 (0), slice none (0 : Nat) (0 : Nat), int i64 (0), int i64 (0), int i64 (0), int i64 (0)] (53 : Nat)) w888 fun b925 w926 =>
 (WrRow w926 ⟨b925, 0, none⟩ (0 : Nat) [int i64 n894, int i64 n895, int i64 n896, int i64 n897, int i64 n898, int i64 n899, int i64 n900, int i64 n901, string s902, string s903, int i64 n904, int i64 n905, string s906, int i64 n907, int i64 n908, int i64 n909, int i64 n910, int i64 n911, int i64 n912, int i64 n913, string s914, string s915, int i64 n916, int i64 n917, slice p918 k919 k920, int i64 n921, int i64 n922, int i64 n923, int i64 n924]) ∧
 LetW (setRow w926 ⟨b925, 0, none⟩ (0 : Nat) [int i64 n894, int i64 n895, int i64 n896, int i64 n897, int i64 n898, int i64 n899, int i64 n900, int i64 n901, string s902, string s903, int i64 n904, int i64 n905, string s906, int i64 n907, int i64 n908, int i64 n909, int i64 n910, int i64 n911, int i64 n912, int i64 n913, string s914, string s915, int i64 n916, int i64 n917, slice p918 k919 k920, int i64 n921, int i64 n922, int i64 n923, int i64 n924]) fun w927 =>
 ∃ n928 : Int,
 (w927.cell? ⟨b925, 0, none⟩ = some (int i64 n928)) ∧
 Br (n928 != (1 : Int))
 (R (returned (bool false)) w927)
 (∃ n929 : Int,
 (w927.cell? ⟨b925, 2, none⟩ = some (int i64 n929)) ∧
 Br (n929 != n66)
 (R (returned (bool false)) w927)
 (∃ n930 : Int,
 (w927.cell? ⟨b925, 3, none⟩ = some (int i64 n930)) ∧
 Br (n930 != n88)
 (R (returned (bool false)) w927)
 (∃ n931 : Int,
 (w927.cell? ⟨b925, 4, none⟩ = some (int i64 n931)) ∧
 Br (n931 != n892)
 (R (returned (bool false)) w927)
 (∃ n932 : Int,
 (w927.cell? ⟨b925, 1, none⟩ = some (int i64 n932)) ∧
 LetI (i64.wrap ((1 : Int) + n850)) fun n933 =>
 Br (n932 != n933)
 (R (returned (bool false)) w927)
 (NilOk p889 fun a934 =>
 ((
 (0 : Int) ≤ (0 : Int)) ∧
 (0 : Int) < (↑k890 : Int)) ∧
 ∃ n935 : Int,
 (w927.cell? a934 = some (int i64 n935)) ∧
 ((6 : Int) ≠ (0 : Int)) ∧
 LetI (n144.tmod (6 : Int)) fun n936 =>
 Br (n935 != n936)
 (R (returned (bool false)) w927)
 (I162 [bool false, bool b87, int i64 n88, int i64 n892, int i64 n90, int i64 n91, int i64 n850] w927)))))))
 (I162 [bool false, bool b87, int i64 n88, int i64 n89, int i64 n90, int i64 n91, int i64 n850] w888))
 (Br (n164 == (6 : Int))
 ((
 (2 : Int) ≠ (0 : Int)) ∧
 LetI (n144.tmod (2 : Int)) fun n937 =>
 LetI (i64.wrap (n88 - n937)) fun n938 =>
 Ca Try.prog (40 : Nat) #[pointer p83, agg #[int i64 (2), int i64 (0), int i64 n66, int i64 n938, int i64 (0), int i64 (0), int i64 (0), int i64 (0), string ⟨#[]⟩, string ⟨#[]⟩, int i64 (0), int i64 (1), string ⟨#[]⟩, int i64 (0), int i64 n142, int i64 (0), int i64 (0), int i64 (0), int i64 (0), int i64 (0), string ⟨#[]⟩, string ⟨#[]⟩, int i64 (0), int i64 (0), slice none (0 : Nat) (0 : Nat), int i64 (0), int i64 (0), int i64 (0), int i64 (0)], int i64 n91] w161 fun e939 w940 =>
 ∃ p941 : Option Addr,
 ∃ k942 : Nat,
 ∃ k943 : Nat,
 (e939 = returned (slice p941 k942 k943)) ∧
 I162 [bool false, bool b87, int i64 n88, int i64 n89, int i64 n90, int i64 n91, int i64 n92] w940)
 (Ca Try.prog (44 : Nat) #[pointer p83] w161 fun e944 w945 =>
 ∃ n946 : Int,
 (e944 = returned (int i64 n946)) ∧
 ((8 : Int) ≠ (0 : Int)) ∧
 LetI (n142.tmod (8 : Int)) fun n947 =>
 Br (n947 == (7 : Int))
 (LetI (i64.wrap (n946 - (1 : Int))) fun n948 =>
 ((10 : Int) ≠ (0 : Int)) ∧
 LetI (n144.tmod (10 : Int)) fun n949 =>
 LetI (i64.wrap ((1 : Int) + n949)) fun n950 =>
 Ca Try.prog (40 : Nat) #[pointer p83, agg #[int i64 (3), int i64 (0), int i64 n66, int i64 n88, int i64 n948, int i64 (0), int i64 (0), int i64 (0), string ⟨#[]⟩, string ⟨#[]⟩, int i64 (0), int i64 (0), string ⟨#[]⟩, int i64 (0), int i64 (0), int i64 n950, int i64 (0), int i64 (0), int i64 (0), int i64 (0), string ⟨#[]⟩, string ⟨#[]⟩, int i64 (0), int i64 (0), slice none (0 : Nat) (0 : Nat), int i64 (0), int i64 (0), int i64 (0), int i64 (0)], int i64 n91] w945 fun e951 w952 =>
 ∃ p953 : Option Addr,
 ∃ k954 : Nat,
 ∃ k955 : Nat,
 (e951 = returned (slice p953 k954 k955)) ∧
 Br (b159)
 (Br (n948 == n89)
 (Br (decide (n90 < n89))
 ((
 (10 : Int) ≠ (0 : Int)) ∧
 LetI (n144.tmod (10 : Int)) fun n956 =>
 LetI (i64.wrap ((1 : Int) + n956)) fun n957 =>
 Br (n957 != (6 : Int))
 (LetI (i64.wrap (n90 + (1 : Int))) fun n958 =>
 I162 [bool false, bool b87, int i64 n88, int i64 n89, int i64 n958, int i64 n91, int i64 n92] w952)
 (I162 [bool false, bool b87, int i64 n88, int i64 n89, int i64 n90, int i64 n91, int i64 n92] w952))
 (I162 [bool false, bool b87, int i64 n88, int i64 n89, int i64 n90, int i64 n91, int i64 n92] w952))
 (I162 [bool false, bool b87, int i64 n88, int i64 n89, int i64 n90, int i64 n91, int i64 n92] w952))
 (I162 [bool false, bool b87, int i64 n88, int i64 n89, int i64 n90, int i64 n91, int i64 n92] w952))
 ((
 (10 : Int) ≠ (0 : Int)) ∧
 LetI (n144.tmod (10 : Int)) fun n959 =>
 LetI (i64.wrap ((1 : Int) + n959)) fun n960 =>
 Ca Try.prog (40 : Nat) #[pointer p83, agg #[int i64 (3), int i64 (0), int i64 n66, int i64 n88, int i64 n946, int i64 (0), int i64 (0), int i64 (0), string ⟨#[]⟩, string ⟨#[]⟩, int i64 (0), int i64 (0), string ⟨#[]⟩, int i64 (0), int i64 (0), int i64 n960, int i64 (0), int i64 (0), int i64 (0), int i64 (0), string ⟨#[]⟩, string ⟨#[]⟩, int i64 (0), int i64 (0), slice none (0 : Nat) (0 : Nat), int i64 (0), int i64 (0), int i64 (0), int i64 (0)], int i64 n91] w945 fun e961 w962 =>
 ∃ p963 : Option Addr,
 ∃ k964 : Nat,
 ∃ k965 : Nat,
 (e961 = returned (slice p963 k964 k965)) ∧
 Br (b159)
 (Br (n946 == n89)
 (Br (decide (n90 < n89))
 ((
 (10 : Int) ≠ (0 : Int)) ∧
 LetI (n144.tmod (10 : Int)) fun n966 =>
 LetI (i64.wrap ((1 : Int) + n966)) fun n967 =>
 Br (n967 != (6 : Int))
 (LetI (i64.wrap (n90 + (1 : Int))) fun n968 =>
 I162 [bool false, bool b87, int i64 n88, int i64 n89, int i64 n968, int i64 n91, int i64 n92] w962)
 (I162 [bool false, bool b87, int i64 n88, int i64 n89, int i64 n90, int i64 n91, int i64 n92] w962))
 (I162 [bool false, bool b87, int i64 n88, int i64 n89, int i64 n90, int i64 n91, int i64 n92] w962))
 (I162 [bool false, bool b87, int i64 n88, int i64 n89, int i64 n90, int i64 n91, int i64 n92] w962))
 (I162 [bool false, bool b87, int i64 n88, int i64 n89, int i64 n90, int i64 n91, int i64 n92] w962)))))))))) ∧
 ∀ b969 : Bool,
 ∀ b970 : Bool,
 ∀ n971 : Int,
 ∀ n972 : Int,
 ∀ n973 : Int,
 ∀ n974 : Int,
 ∀ n975 : Int,
 ∀ w976 : World,
 (I162 [bool b969, bool b970, int i64 n971, int i64 n972, int i64 n973, int i64 n974, int i64 n975] w976) →
 Ca Try.prog (39 : Nat) #[pointer p83] w976 fun e977 w978 =>
 ∃ n979 : Int,
 ∃ n980 : Int,
 ∃ n981 : Int,
 ∃ s982 : ByteArray,
 ∃ n983 : Int,
 ∃ n984 : Int,
 ∃ b985 : Bool,
 (e977 = returned (tuple #[agg #[int i64 n979, int i64 n980, int i64 n981, string s982, int i64 n983, int i64 n984], bool b985])) ∧
 LetA (Obj.cells #[int i64 (0), int i64 (0), int i64 (0), string ⟨#[]⟩, int i64 (0), int i64 (0)] (80 : Nat)) w978 fun b986 w987 =>
 (WrRow w987 ⟨b986, 0, none⟩ (0 : Nat) [int i64 n979, int i64 n980, int i64 n981, string s982, int i64 n983, int i64 n984]) ∧
 LetW (setRow w987 ⟨b986, 0, none⟩ (0 : Nat) [int i64 n979, int i64 n980, int i64 n981, string s982, int i64 n983, int i64 n984]) fun w988 =>
 Ca Try.prog (43 : Nat) #[pointer p83] w988 fun e989 w990 =>
 ∃ n991 : Int,
 (e989 = returned (int i64 n991)) ∧
 Br (n991 != n971)
 (R (returned (bool false)) w990)
 (Ca Try.prog (44 : Nat) #[pointer p83] w990 fun e992 w993 =>
 ∃ n994 : Int,
 (e992 = returned (int i64 n994)) ∧
 Br (n994 != n972)
 (R (returned (bool false)) w993)
 (∃ n995 : Int,
 (w993.cell? ⟨b19, 10, none⟩ = some (int i64 n995)) ∧
 LetI (i64.wrap (n995 + (1 : Int))) fun n996 =>
 Br (decide (n972 > n996))
 (R (returned (bool false)) w993)
 (Br (decide (n971 > (0 : Int)))
 (Ca Try.prog (42 : Nat) #[pointer p83] w993 fun e997 w998 =>
 ∃ b999 : Bool,
 (e997 = returned (bool b999)) ∧
 Br (!b985 == !b999)
 (R (returned (bool false)) w998)
 (Br (b153)
 (Br (!b969)
 (Br (!b985)
 (R (returned (bool false)) w998)
 (∃ n1000 : Int,
 ∃ n1001 : Int,
 ∃ n1002 : Int,
 ∃ s1003 : ByteArray,
 ∃ n1004 : Int,
 ∃ n1005 : Int,
 (Row w998 ⟨b986, 0, none⟩ (0 : Nat) [int i64 n1000, int i64 n1001, int i64 n1002, string s1003, int i64 n1004, int i64 n1005]) ∧
 ∃ n1006 : Int,
 ∃ n1007 : Int,
 ∃ n1008 : Int,
 ∃ s1009 : ByteArray,
 ∃ n1010 : Int,
 ∃ n1011 : Int,
 (Row w998 ⟨b154, 0, none⟩ (0 : Nat) [int i64 n1006, int i64 n1007, int i64 n1008, string s1009, int i64 n1010, int i64 n1011]) ∧
 Br (!(n1000 == n1006 && (n1001 == n1007 && (n1002 == n1008 && (s1003.toList == s1009.toList && (n1004 == n1010 && (n1005 == n1011 && true))) && true))))
 (R (returned (bool false)) w998)
 (Br (b985)
 (Br (!b153)
 (∃ n1012 : Int,
 (w998.cell? ⟨b986, 0, none⟩ = some (int i64 n1012)) ∧
 Br (n1012 == (2 : Int))
 (Br (decide (n973 < n972))
 (R (returned (bool false)) w998)
 (Br (b985)
 (∃ n1013 : Int,
 (w998.cell? ⟨b986, 0, none⟩ = some (int i64 n1013)) ∧
 Br (decide (n1013 < (1 : Int)))
 (R (returned (bool false)) w998)
 (∃ n1014 : Int,
 (w998.cell? ⟨b986, 0, none⟩ = some (int i64 n1014)) ∧
 Br (decide (n1014 > (3 : Int)))
 (R (returned (bool false)) w998)
 (LetI (i64.wrap (n93 + (1 : Int))) fun n1015 =>
 ∃ k1016 : Nat,
 (k1016 < k94) ∧
 I85 k1016 [bool b970, int i64 n971, int i64 n972, int i64 n973, int i64 n974, int i64 n975, int i64 n1015] w998)))
 (LetI (i64.wrap (n93 + (1 : Int))) fun n1017 =>
 ∃ k1018 : Nat,
 (k1018 < k94) ∧
 I85 k1018 [bool b970, int i64 n971, int i64 n972, int i64 n973, int i64 n974, int i64 n975, int i64 n1017] w998)))
 (Br (b985)
 (∃ n1019 : Int,
 (w998.cell? ⟨b986, 0, none⟩ = some (int i64 n1019)) ∧
 Br (decide (n1019 < (1 : Int)))
 (R (returned (bool false)) w998)
 (∃ n1020 : Int,
 (w998.cell? ⟨b986, 0, none⟩ = some (int i64 n1020)) ∧
 Br (decide (n1020 > (3 : Int)))
 (R (returned (bool false)) w998)
 (LetI (i64.wrap (n93 + (1 : Int))) fun n1021 =>
 ∃ k1022 : Nat,
 (k1022 < k94) ∧
 I85 k1022 [bool b970, int i64 n971, int i64 n972, int i64 n973, int i64 n974, int i64 n975, int i64 n1021] w998)))
 (LetI (i64.wrap (n93 + (1 : Int))) fun n1023 =>
 ∃ k1024 : Nat,
 (k1024 < k94) ∧
 I85 k1024 [bool b970, int i64 n971, int i64 n972, int i64 n973, int i64 n974, int i64 n975, int i64 n1023] w998)))
 (Br (b985)
 (∃ n1025 : Int,
 (w998.cell? ⟨b986, 0, none⟩ = some (int i64 n1025)) ∧
 Br (decide (n1025 < (1 : Int)))
 (R (returned (bool false)) w998)
 (∃ n1026 : Int,
 (w998.cell? ⟨b986, 0, none⟩ = some (int i64 n1026)) ∧
 Br (decide (n1026 > (3 : Int)))
 (R (returned (bool false)) w998)
 (LetI (i64.wrap (n93 + (1 : Int))) fun n1027 =>
 ∃ k1028 : Nat,
 (k1028 < k94) ∧
 I85 k1028 [bool b970, int i64 n971, int i64 n972, int i64 n973, int i64 n974, int i64 n975, int i64 n1027] w998)))
 (LetI (i64.wrap (n93 + (1 : Int))) fun n1029 =>
 ∃ k1030 : Nat,
 (k1030 < k94) ∧
 I85 k1030 [bool b970, int i64 n971, int i64 n972, int i64 n973, int i64 n974, int i64 n975, int i64 n1029] w998)))
 (Br (b985)
 (∃ n1031 : Int,
 (w998.cell? ⟨b986, 0, none⟩ = some (int i64 n1031)) ∧
 Br (decide (n1031 < (1 : Int)))
 (R (returned (bool false)) w998)
 (∃ n1032 : Int,
 (w998.cell? ⟨b986, 0, none⟩ = some (int i64 n1032)) ∧
 Br (decide (n1032 > (3 : Int)))
 (R (returned (bool false)) w998)
 (LetI (i64.wrap (n93 + (1 : Int))) fun n1033 =>
 ∃ k1034 : Nat,
 (k1034 < k94) ∧
 I85 k1034 [bool b970, int i64 n971, int i64 n972, int i64 n973, int i64 n974, int i64 n975, int i64 n1033] w998)))
 (LetI (i64.wrap (n93 + (1 : Int))) fun n1035 =>
 ∃ k1036 : Nat,
 (k1036 < k94) ∧
 I85 k1036 [bool b970, int i64 n971, int i64 n972, int i64 n973, int i64 n974, int i64 n975, int i64 n1035] w998)))))
 (Br (b985)
 (Br (!b153)
 (∃ n1037 : Int,
 (w998.cell? ⟨b986, 0, none⟩ = some (int i64 n1037)) ∧
 Br (n1037 == (2 : Int))
 (Br (decide (n973 < n972))
 (R (returned (bool false)) w998)
 (Br (b985)
 (∃ n1038 : Int,
 (w998.cell? ⟨b986, 0, none⟩ = some (int i64 n1038)) ∧
 Br (decide (n1038 < (1 : Int)))
 (R (returned (bool false)) w998)
 (∃ n1039 : Int,
 (w998.cell? ⟨b986, 0, none⟩ = some (int i64 n1039)) ∧
 Br (decide (n1039 > (3 : Int)))
 (R (returned (bool false)) w998)
 (LetI (i64.wrap (n93 + (1 : Int))) fun n1040 =>
 ∃ k1041 : Nat,
 (k1041 < k94) ∧
 I85 k1041 [bool b970, int i64 n971, int i64 n972, int i64 n973, int i64 n974, int i64 n975, int i64 n1040] w998)))
 (LetI (i64.wrap (n93 + (1 : Int))) fun n1042 =>
 ∃ k1043 : Nat,
 (k1043 < k94) ∧
 I85 k1043 [bool b970, int i64 n971, int i64 n972, int i64 n973, int i64 n974, int i64 n975, int i64 n1042] w998)))
 (Br (b985)
 (∃ n1044 : Int,
 (w998.cell? ⟨b986, 0, none⟩ = some (int i64 n1044)) ∧
 Br (decide (n1044 < (1 : Int)))
 (R (returned (bool false)) w998)
 (∃ n1045 : Int,
 (w998.cell? ⟨b986, 0, none⟩ = some (int i64 n1045)) ∧
 Br (decide (n1045 > (3 : Int)))
 (R (returned (bool false)) w998)
 (LetI (i64.wrap (n93 + (1 : Int))) fun n1046 =>
 ∃ k1047 : Nat,
 (k1047 < k94) ∧
 I85 k1047 [bool b970, int i64 n971, int i64 n972, int i64 n973, int i64 n974, int i64 n975, int i64 n1046] w998)))
 (LetI (i64.wrap (n93 + (1 : Int))) fun n1048 =>
 ∃ k1049 : Nat,
 (k1049 < k94) ∧
 I85 k1049 [bool b970, int i64 n971, int i64 n972, int i64 n973, int i64 n974, int i64 n975, int i64 n1048] w998)))
 (Br (b985)
 (∃ n1050 : Int,
 (w998.cell? ⟨b986, 0, none⟩ = some (int i64 n1050)) ∧
 Br (decide (n1050 < (1 : Int)))
 (R (returned (bool false)) w998)
 (∃ n1051 : Int,
 (w998.cell? ⟨b986, 0, none⟩ = some (int i64 n1051)) ∧
 Br (decide (n1051 > (3 : Int)))
 (R (returned (bool false)) w998)
 (LetI (i64.wrap (n93 + (1 : Int))) fun n1052 =>
 ∃ k1053 : Nat,
 (k1053 < k94) ∧
 I85 k1053 [bool b970, int i64 n971, int i64 n972, int i64 n973, int i64 n974, int i64 n975, int i64 n1052] w998)))
 (LetI (i64.wrap (n93 + (1 : Int))) fun n1054 =>
 ∃ k1055 : Nat,
 (k1055 < k94) ∧
 I85 k1055 [bool b970, int i64 n971, int i64 n972, int i64 n973, int i64 n974, int i64 n975, int i64 n1054] w998)))
 (Br (b985)
 (∃ n1056 : Int,
 (w998.cell? ⟨b986, 0, none⟩ = some (int i64 n1056)) ∧
 Br (decide (n1056 < (1 : Int)))
 (R (returned (bool false)) w998)
 (∃ n1057 : Int,
 (w998.cell? ⟨b986, 0, none⟩ = some (int i64 n1057)) ∧
 Br (decide (n1057 > (3 : Int)))
 (R (returned (bool false)) w998)
 (LetI (i64.wrap (n93 + (1 : Int))) fun n1058 =>
 ∃ k1059 : Nat,
 (k1059 < k94) ∧
 I85 k1059 [bool b970, int i64 n971, int i64 n972, int i64 n973, int i64 n974, int i64 n975, int i64 n1058] w998)))
 (LetI (i64.wrap (n93 + (1 : Int))) fun n1060 =>
 ∃ k1061 : Nat,
 (k1061 < k94) ∧
 I85 k1061 [bool b970, int i64 n971, int i64 n972, int i64 n973, int i64 n974, int i64 n975, int i64 n1060] w998))))
 (Br (b985)
 (Br (!b153)
 (∃ n1062 : Int,
 (w998.cell? ⟨b986, 0, none⟩ = some (int i64 n1062)) ∧
 Br (n1062 == (2 : Int))
 (Br (decide (n973 < n972))
 (R (returned (bool false)) w998)
 (Br (b985)
 (∃ n1063 : Int,
 (w998.cell? ⟨b986, 0, none⟩ = some (int i64 n1063)) ∧
 Br (decide (n1063 < (1 : Int)))
 (R (returned (bool false)) w998)
 (∃ n1064 : Int,
 (w998.cell? ⟨b986, 0, none⟩ = some (int i64 n1064)) ∧
 Br (decide (n1064 > (3 : Int)))
 (R (returned (bool false)) w998)
 (LetI (i64.wrap (n93 + (1 : Int))) fun n1065 =>
 ∃ k1066 : Nat,
 (k1066 < k94) ∧
 I85 k1066 [bool b970, int i64 n971, int i64 n972, int i64 n973, int i64 n974, int i64 n975, int i64 n1065] w998)))
 (LetI (i64.wrap (n93 + (1 : Int))) fun n1067 =>
 ∃ k1068 : Nat,
 (k1068 < k94) ∧
 I85 k1068 [bool b970, int i64 n971, int i64 n972, int i64 n973, int i64 n974, int i64 n975, int i64 n1067] w998)))
 (Br (b985)
 (∃ n1069 : Int,
 (w998.cell? ⟨b986, 0, none⟩ = some (int i64 n1069)) ∧
 Br (decide (n1069 < (1 : Int)))
 (R (returned (bool false)) w998)
 (∃ n1070 : Int,
 (w998.cell? ⟨b986, 0, none⟩ = some (int i64 n1070)) ∧
 Br (decide (n1070 > (3 : Int)))
 (R (returned (bool false)) w998)
 (LetI (i64.wrap (n93 + (1 : Int))) fun n1071 =>
 ∃ k1072 : Nat,
 (k1072 < k94) ∧
 I85 k1072 [bool b970, int i64 n971, int i64 n972, int i64 n973, int i64 n974, int i64 n975, int i64 n1071] w998)))
 (LetI (i64.wrap (n93 + (1 : Int))) fun n1073 =>
 ∃ k1074 : Nat,
 (k1074 < k94) ∧
 I85 k1074 [bool b970, int i64 n971, int i64 n972, int i64 n973, int i64 n974, int i64 n975, int i64 n1073] w998)))
 (Br (b985)
 (∃ n1075 : Int,
 (w998.cell? ⟨b986, 0, none⟩ = some (int i64 n1075)) ∧
 Br (decide (n1075 < (1 : Int)))
 (R (returned (bool false)) w998)
 (∃ n1076 : Int,
 (w998.cell? ⟨b986, 0, none⟩ = some (int i64 n1076)) ∧
 Br (decide (n1076 > (3 : Int)))
 (R (returned (bool false)) w998)
 (LetI (i64.wrap (n93 + (1 : Int))) fun n1077 =>
 ∃ k1078 : Nat,
 (k1078 < k94) ∧
 I85 k1078 [bool b970, int i64 n971, int i64 n972, int i64 n973, int i64 n974, int i64 n975, int i64 n1077] w998)))
 (LetI (i64.wrap (n93 + (1 : Int))) fun n1079 =>
 ∃ k1080 : Nat,
 (k1080 < k94) ∧
 I85 k1080 [bool b970, int i64 n971, int i64 n972, int i64 n973, int i64 n974, int i64 n975, int i64 n1079] w998)))
 (Br (b985)
 (∃ n1081 : Int,
 (w998.cell? ⟨b986, 0, none⟩ = some (int i64 n1081)) ∧
 Br (decide (n1081 < (1 : Int)))
 (R (returned (bool false)) w998)
 (∃ n1082 : Int,
 (w998.cell? ⟨b986, 0, none⟩ = some (int i64 n1082)) ∧
 Br (decide (n1082 > (3 : Int)))
 (R (returned (bool false)) w998)
 (LetI (i64.wrap (n93 + (1 : Int))) fun n1083 =>
 ∃ k1084 : Nat,
 (k1084 < k94) ∧
 I85 k1084 [bool b970, int i64 n971, int i64 n972, int i64 n973, int i64 n974, int i64 n975, int i64 n1083] w998)))
 (LetI (i64.wrap (n93 + (1 : Int))) fun n1085 =>
 ∃ k1086 : Nat,
 (k1086 < k94) ∧
 I85 k1086 [bool b970, int i64 n971, int i64 n972, int i64 n973, int i64 n974, int i64 n975, int i64 n1085] w998)))))
 (Br (!b985 == false)
 (R (returned (bool false)) w993)
 (Br (b153)
 (Br (!b969)
 (Br (!b985)
 (R (returned (bool false)) w993)
 (∃ n1087 : Int,
 ∃ n1088 : Int,
 ∃ n1089 : Int,
 ∃ s1090 : ByteArray,
 ∃ n1091 : Int,
 ∃ n1092 : Int,
 (Row w993 ⟨b986, 0, none⟩ (0 : Nat) [int i64 n1087, int i64 n1088, int i64 n1089, string s1090, int i64 n1091, int i64 n1092]) ∧
 ∃ n1093 : Int,
 ∃ n1094 : Int,
 ∃ n1095 : Int,
 ∃ s1096 : ByteArray,
 ∃ n1097 : Int,
 ∃ n1098 : Int,
 (Row w993 ⟨b154, 0, none⟩ (0 : Nat) [int i64 n1093, int i64 n1094, int i64 n1095, string s1096, int i64 n1097, int i64 n1098]) ∧
 Br (!(n1087 == n1093 && (n1088 == n1094 && (n1089 == n1095 && (s1090.toList == s1096.toList && (n1091 == n1097 && (n1092 == n1098 && true))) && true))))
 (R (returned (bool false)) w993)
 (Br (b985)
 (Br (!b153)
 (∃ n1099 : Int,
 (w993.cell? ⟨b986, 0, none⟩ = some (int i64 n1099)) ∧
 Br (n1099 == (2 : Int))
 (Br (decide (n973 < n972))
 (R (returned (bool false)) w993)
 (Br (b985)
 (∃ n1100 : Int,
 (w993.cell? ⟨b986, 0, none⟩ = some (int i64 n1100)) ∧
 Br (decide (n1100 < (1 : Int)))
 (R (returned (bool false)) w993)
 (∃ n1101 : Int,
 (w993.cell? ⟨b986, 0, none⟩ = some (int i64 n1101)) ∧
 Br (decide (n1101 > (3 : Int)))
 (R (returned (bool false)) w993)
 (LetI (i64.wrap (n93 + (1 : Int))) fun n1102 =>
 ∃ k1103 : Nat,
 (k1103 < k94) ∧
 I85 k1103 [bool b970, int i64 n971, int i64 n972, int i64 n973, int i64 n974, int i64 n975, int i64 n1102] w993)))
 (LetI (i64.wrap (n93 + (1 : Int))) fun n1104 =>
 ∃ k1105 : Nat,
 (k1105 < k94) ∧
 I85 k1105 [bool b970, int i64 n971, int i64 n972, int i64 n973, int i64 n974, int i64 n975, int i64 n1104] w993)))
 (Br (b985)
 (∃ n1106 : Int,
 (w993.cell? ⟨b986, 0, none⟩ = some (int i64 n1106)) ∧
 Br (decide (n1106 < (1 : Int)))
 (R (returned (bool false)) w993)
 (∃ n1107 : Int,
 (w993.cell? ⟨b986, 0, none⟩ = some (int i64 n1107)) ∧
 Br (decide (n1107 > (3 : Int)))
 (R (returned (bool false)) w993)
 (LetI (i64.wrap (n93 + (1 : Int))) fun n1108 =>
 ∃ k1109 : Nat,
 (k1109 < k94) ∧
 I85 k1109 [bool b970, int i64 n971, int i64 n972, int i64 n973, int i64 n974, int i64 n975, int i64 n1108] w993)))
 (LetI (i64.wrap (n93 + (1 : Int))) fun n1110 =>
 ∃ k1111 : Nat,
 (k1111 < k94) ∧
 I85 k1111 [bool b970, int i64 n971, int i64 n972, int i64 n973, int i64 n974, int i64 n975, int i64 n1110] w993)))
 (Br (b985)
 (∃ n1112 : Int,
 (w993.cell? ⟨b986, 0, none⟩ = some (int i64 n1112)) ∧
 Br (decide (n1112 < (1 : Int)))
 (R (returned (bool false)) w993)
 (∃ n1113 : Int,
 (w993.cell? ⟨b986, 0, none⟩ = some (int i64 n1113)) ∧
 Br (decide (n1113 > (3 : Int)))
 (R (returned (bool false)) w993)
 (LetI (i64.wrap (n93 + (1 : Int))) fun n1114 =>
 ∃ k1115 : Nat,
 (k1115 < k94) ∧
 I85 k1115 [bool b970, int i64 n971, int i64 n972, int i64 n973, int i64 n974, int i64 n975, int i64 n1114] w993)))
 (LetI (i64.wrap (n93 + (1 : Int))) fun n1116 =>
 ∃ k1117 : Nat,
 (k1117 < k94) ∧
 I85 k1117 [bool b970, int i64 n971, int i64 n972, int i64 n973, int i64 n974, int i64 n975, int i64 n1116] w993)))
 (Br (b985)
 (∃ n1118 : Int,
 (w993.cell? ⟨b986, 0, none⟩ = some (int i64 n1118)) ∧
 Br (decide (n1118 < (1 : Int)))
 (R (returned (bool false)) w993)
 (∃ n1119 : Int,
 (w993.cell? ⟨b986, 0, none⟩ = some (int i64 n1119)) ∧
 Br (decide (n1119 > (3 : Int)))
 (R (returned (bool false)) w993)
 (LetI (i64.wrap (n93 + (1 : Int))) fun n1120 =>
 ∃ k1121 : Nat,
 (k1121 < k94) ∧
 I85 k1121 [bool b970, int i64 n971, int i64 n972, int i64 n973, int i64 n974, int i64 n975, int i64 n1120] w993)))
 (LetI (i64.wrap (n93 + (1 : Int))) fun n1122 =>
 ∃ k1123 : Nat,
 (k1123 < k94) ∧
 I85 k1123 [bool b970, int i64 n971, int i64 n972, int i64 n973, int i64 n974, int i64 n975, int i64 n1122] w993)))))
 (Br (b985)
 (Br (!b153)
 (∃ n1124 : Int,
 (w993.cell? ⟨b986, 0, none⟩ = some (int i64 n1124)) ∧
 Br (n1124 == (2 : Int))
 (Br (decide (n973 < n972))
 (R (returned (bool false)) w993)
 (Br (b985)
 (∃ n1125 : Int,
 (w993.cell? ⟨b986, 0, none⟩ = some (int i64 n1125)) ∧
 Br (decide (n1125 < (1 : Int)))
 (R (returned (bool false)) w993)
 (∃ n1126 : Int,
 (w993.cell? ⟨b986, 0, none⟩ = some (int i64 n1126)) ∧
 Br (decide (n1126 > (3 : Int)))
 (R (returned (bool false)) w993)
 (LetI (i64.wrap (n93 + (1 : Int))) fun n1127 =>
 ∃ k1128 : Nat,
 (k1128 < k94) ∧
 I85 k1128 [bool b970, int i64 n971, int i64 n972, int i64 n973, int i64 n974, int i64 n975, int i64 n1127] w993)))
 (LetI (i64.wrap (n93 + (1 : Int))) fun n1129 =>
 ∃ k1130 : Nat,
 (k1130 < k94) ∧
 I85 k1130 [bool b970, int i64 n971, int i64 n972, int i64 n973, int i64 n974, int i64 n975, int i64 n1129] w993)))
 (Br (b985)
 (∃ n1131 : Int,
 (w993.cell? ⟨b986, 0, none⟩ = some (int i64 n1131)) ∧
 Br (decide (n1131 < (1 : Int)))
 (R (returned (bool false)) w993)
 (∃ n1132 : Int,
 (w993.cell? ⟨b986, 0, none⟩ = some (int i64 n1132)) ∧
 Br (decide (n1132 > (3 : Int)))
 (R (returned (bool false)) w993)
 (LetI (i64.wrap (n93 + (1 : Int))) fun n1133 =>
 ∃ k1134 : Nat,
 (k1134 < k94) ∧
 I85 k1134 [bool b970, int i64 n971, int i64 n972, int i64 n973, int i64 n974, int i64 n975, int i64 n1133] w993)))
 (LetI (i64.wrap (n93 + (1 : Int))) fun n1135 =>
 ∃ k1136 : Nat,
 (k1136 < k94) ∧
 I85 k1136 [bool b970, int i64 n971, int i64 n972, int i64 n973, int i64 n974, int i64 n975, int i64 n1135] w993)))
 (Br (b985)
 (∃ n1137 : Int,
 (w993.cell? ⟨b986, 0, none⟩ = some (int i64 n1137)) ∧
 Br (decide (n1137 < (1 : Int)))
 (R (returned (bool false)) w993)
 (∃ n1138 : Int,
 (w993.cell? ⟨b986, 0, none⟩ = some (int i64 n1138)) ∧
 Br (decide (n1138 > (3 : Int)))
 (R (returned (bool false)) w993)
 (LetI (i64.wrap (n93 + (1 : Int))) fun n1139 =>
 ∃ k1140 : Nat,
 (k1140 < k94) ∧
 I85 k1140 [bool b970, int i64 n971, int i64 n972, int i64 n973, int i64 n974, int i64 n975, int i64 n1139] w993)))
 (LetI (i64.wrap (n93 + (1 : Int))) fun n1141 =>
 ∃ k1142 : Nat,
 (k1142 < k94) ∧
 I85 k1142 [bool b970, int i64 n971, int i64 n972, int i64 n973, int i64 n974, int i64 n975, int i64 n1141] w993)))
 (Br (b985)
 (∃ n1143 : Int,
 (w993.cell? ⟨b986, 0, none⟩ = some (int i64 n1143)) ∧
 Br (decide (n1143 < (1 : Int)))
 (R (returned (bool false)) w993)
 (∃ n1144 : Int,
 (w993.cell? ⟨b986, 0, none⟩ = some (int i64 n1144)) ∧
 Br (decide (n1144 > (3 : Int)))
 (R (returned (bool false)) w993)
 (LetI (i64.wrap (n93 + (1 : Int))) fun n1145 =>
 ∃ k1146 : Nat,
 (k1146 < k94) ∧
 I85 k1146 [bool b970, int i64 n971, int i64 n972, int i64 n973, int i64 n974, int i64 n975, int i64 n1145] w993)))
 (LetI (i64.wrap (n93 + (1 : Int))) fun n1147 =>
 ∃ k1148 : Nat,
 (k1148 < k94) ∧
 I85 k1148 [bool b970, int i64 n971, int i64 n972, int i64 n973, int i64 n974, int i64 n975, int i64 n1147] w993))))
 (Br (b985)
 (Br (!b153)
 (∃ n1149 : Int,
 (w993.cell? ⟨b986, 0, none⟩ = some (int i64 n1149)) ∧
 Br (n1149 == (2 : Int))
 (Br (decide (n973 < n972))
 (R (returned (bool false)) w993)
 (Br (b985)
 (∃ n1150 : Int,
 (w993.cell? ⟨b986, 0, none⟩ = some (int i64 n1150)) ∧
 Br (decide (n1150 < (1 : Int)))
 (R (returned (bool false)) w993)
 (∃ n1151 : Int,
 (w993.cell? ⟨b986, 0, none⟩ = some (int i64 n1151)) ∧
 Br (decide (n1151 > (3 : Int)))
 (R (returned (bool false)) w993)
 (LetI (i64.wrap (n93 + (1 : Int))) fun n1152 =>
 ∃ k1153 : Nat,
 (k1153 < k94) ∧
 I85 k1153 [bool b970, int i64 n971, int i64 n972, int i64 n973, int i64 n974, int i64 n975, int i64 n1152] w993)))
 (LetI (i64.wrap (n93 + (1 : Int))) fun n1154 =>
 ∃ k1155 : Nat,
 (k1155 < k94) ∧
 I85 k1155 [bool b970, int i64 n971, int i64 n972, int i64 n973, int i64 n974, int i64 n975, int i64 n1154] w993)))
 (Br (b985)
 (∃ n1156 : Int,
 (w993.cell? ⟨b986, 0, none⟩ = some (int i64 n1156)) ∧
 Br (decide (n1156 < (1 : Int)))
 (R (returned (bool false)) w993)
 (∃ n1157 : Int,
 (w993.cell? ⟨b986, 0, none⟩ = some (int i64 n1157)) ∧
 Br (decide (n1157 > (3 : Int)))
 (R (returned (bool false)) w993)
 (LetI (i64.wrap (n93 + (1 : Int))) fun n1158 =>
 ∃ k1159 : Nat,
 (k1159 < k94) ∧
 I85 k1159 [bool b970, int i64 n971, int i64 n972, int i64 n973, int i64 n974, int i64 n975, int i64 n1158] w993)))
 (LetI (i64.wrap (n93 + (1 : Int))) fun n1160 =>
 ∃ k1161 : Nat,
 (k1161 < k94) ∧
 I85 k1161 [bool b970, int i64 n971, int i64 n972, int i64 n973, int i64 n974, int i64 n975, int i64 n1160] w993)))
 (Br (b985)
 (∃ n1162 : Int,
 (w993.cell? ⟨b986, 0, none⟩ = some (int i64 n1162)) ∧
 Br (decide (n1162 < (1 : Int)))
 (R (returned (bool false)) w993)
 (∃ n1163 : Int,
 (w993.cell? ⟨b986, 0, none⟩ = some (int i64 n1163)) ∧
 Br (decide (n1163 > (3 : Int)))
 (R (returned (bool false)) w993)
 (LetI (i64.wrap (n93 + (1 : Int))) fun n1164 =>
 ∃ k1165 : Nat,
 (k1165 < k94) ∧
 I85 k1165 [bool b970, int i64 n971, int i64 n972, int i64 n973, int i64 n974, int i64 n975, int i64 n1164] w993)))
 (LetI (i64.wrap (n93 + (1 : Int))) fun n1166 =>
 ∃ k1167 : Nat,
 (k1167 < k94) ∧
 I85 k1167 [bool b970, int i64 n971, int i64 n972, int i64 n973, int i64 n974, int i64 n975, int i64 n1166] w993)))
 (Br (b985)
 (∃ n1168 : Int,
 (w993.cell? ⟨b986, 0, none⟩ = some (int i64 n1168)) ∧
 Br (decide (n1168 < (1 : Int)))
 (R (returned (bool false)) w993)
 (∃ n1169 : Int,
 (w993.cell? ⟨b986, 0, none⟩ = some (int i64 n1169)) ∧
 Br (decide (n1169 > (3 : Int)))
 (R (returned (bool false)) w993)
 (LetI (i64.wrap (n93 + (1 : Int))) fun n1170 =>
 ∃ k1171 : Nat,
 (k1171 < k94) ∧
 I85 k1171 [bool b970, int i64 n971, int i64 n972, int i64 n973, int i64 n974, int i64 n975, int i64 n1170] w993)))
 (LetI (i64.wrap (n93 + (1 : Int))) fun n1172 =>
 ∃ k1173 : Nat,
 (k1173 < k94) ∧
 I85 k1173 [bool b970, int i64 n971, int i64 n972, int i64 n973, int i64 n974, int i64 n975, int i64 n1172] w993)))))))))
 (Ca Try.prog (37 : Nat) #[] w95 fun e1174 w1175 =>
 ∃ b1176 : Bool,
 (e1174 = returned (bool b1176)) ∧
 R (returned (bool b1176)) w1175))))
theorem lawKOnce_ok (n1 : Int) (n2 : Int) (n3 : Int) (p4 : Option Addr) (k5 : Nat) (k6 : Nat) (n7 : Int) (n8 : Int) (n9 : Int) (n10 : Int) (n11 : Int) (n12 : Int) (n13 : Int) (n14 : Int) (n15 : Int) (p16 : Option Addr) (k17 : Nat) (k18 : Nat) (w : World) (R : Ending → World → Prop) (h : lawKOnce n1 n2 n3 p4 k5 k6 n7 n8 n9 n10 n11 n12 n13 n14 n15 p16 k17 k18 w R) : Ca Try.prog 10 #[agg #[int i64 n1, int i64 n2, int i64 n3, slice p4 k5 k6, int i64 n7, int i64 n8, int i64 n9, int i64 n10, int i64 n11, int i64 n12, int i64 n13, int i64 n14], int u8 n15, slice p16 k17 k18] w R :=
 Ca.of_fvc (c := bodyOf Try.f10) (by kernel_rfl) Try.func10 (by kernel_rfl) [51] (Eq.mp (by kernel_rfl) h)

end Go.Proofs.Ytljipmhkpnigkaa
