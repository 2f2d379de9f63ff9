/- The verification conditions of this seat's functions, printed by a program; the kernel holds each against the loaded code. -/
import Derived.Test.YtljipmhkpnigkaaProg
import Derived.KernelRfl
import Derived.Test.YtljipmhkpnigkaaV5
set_option maxRecDepth 100000
namespace Go.Proofs.Ytljipmhkpnigkaa
open Go Go.Vc Go.Proofs
def lawKBudget (n1 : Int) (n2 : Int) (n3 : Int) (p4 : Option Addr) (k5 : Nat) (k6 : Nat) (n7 : Int) (n8 : Int) (n9 : Int) (n10 : Int) (n11 : Int) (n12 : Int) (n13 : Int) (n14 : Int) (p15 : Option Addr) (k16 : Nat) (_k17 : Nat) (w : World) (R : Ending → World → Prop) : Prop :=
 LetA (Obj.cells #[Value.int IntKind.i64 n1, Value.int IntKind.i64 n2, Value.int IntKind.i64 n3, Value.slice p4 k5 k6, Value.int IntKind.i64 n7, Value.int IntKind.i64 n8, Value.int IntKind.i64 n9, Value.int IntKind.i64 n10, Value.int IntKind.i64 n11, Value.int IntKind.i64 n12, Value.int IntKind.i64 n13, Value.int IntKind.i64 n14] (24 : Nat)) w fun b18 w19 =>
 ∃ p20 : Option Addr,
 ∃ k21 : Nat,
 ∃ k22 : Nat,
 (
  w19.cell? { block := b18, off := (3 : Nat) } = some (Value.slice p20 k21 k22)) ∧
 Br (decide ((↑k21 : Int) > (20 : Int)))
  (
   Ca Try.prog (37 : Nat) #[] w19 fun e23 w24 =>
   ∃ b25 : Bool,
   (
    e23 = Ending.returned (Value.bool b25)) ∧
   R (Ending.returned (Value.bool b25)) w24)
  (
   Br (decide ((↑k16 : Int) > (80 : Int)))
    (
     Ca Try.prog (37 : Nat) #[] w19 fun e26 w27 =>
     ∃ b28 : Bool,
     (
      e26 = Ending.returned (Value.bool b28)) ∧
     R (Ending.returned (Value.bool b28)) w27)
    (
     ∃ n29 : Int,
     ∃ n30 : Int,
     ∃ n31 : Int,
     ∃ p32 : Option Addr,
     ∃ k33 : Nat,
     ∃ k34 : Nat,
     ∃ n35 : Int,
     ∃ n36 : Int,
     ∃ n37 : Int,
     ∃ n38 : Int,
     ∃ n39 : Int,
     ∃ n40 : Int,
     ∃ n41 : Int,
     ∃ n42 : Int,
     (
      Row w19 { block := b18, off := (0 : Nat) } (0 : Nat) [Value.int IntKind.i64 n29, Value.int IntKind.i64 n30, Value.int IntKind.i64 n31, Value.slice p32 k33 k34, Value.int IntKind.i64 n35, Value.int IntKind.i64 n36, Value.int IntKind.i64 n37, Value.int IntKind.i64 n38, Value.int IntKind.i64 n39, Value.int IntKind.i64 n40, Value.int IntKind.i64 n41, Value.int IntKind.i64 n42]) ∧
     Ca Try.prog (14 : Nat) #[Value.agg #[Value.int IntKind.i64 n29, Value.int IntKind.i64 n30, Value.int IntKind.i64 n31, Value.slice p32 k33 k34, Value.int IntKind.i64 n35, Value.int IntKind.i64 n36, Value.int IntKind.i64 n37, Value.int IntKind.i64 n38, Value.int IntKind.i64 n39, Value.int IntKind.i64 n40, Value.int IntKind.i64 n41, Value.int IntKind.i64 n42]] w19 fun e43 w44 =>
     ∃ n45 : Int,
     ∃ n46 : Int,
     ∃ n47 : Int,
     ∃ p48 : Option Addr,
     ∃ k49 : Nat,
     ∃ k50 : Nat,
     ∃ n51 : Int,
     ∃ n52 : Int,
     ∃ n53 : Int,
     ∃ n54 : Int,
     ∃ n55 : Int,
     ∃ n56 : Int,
     ∃ n57 : Int,
     ∃ n58 : Int,
     (
      e43 = Ending.returned (Value.agg #[Value.int IntKind.i64 n45, Value.int IntKind.i64 n46, Value.int IntKind.i64 n47, Value.slice p48 k49 k50, Value.int IntKind.i64 n51, Value.int IntKind.i64 n52, Value.int IntKind.i64 n53, Value.int IntKind.i64 n54, Value.int IntKind.i64 n55, Value.int IntKind.i64 n56, Value.int IntKind.i64 n57, Value.int IntKind.i64 n58])) ∧
     (
      WrRow w44 { block := b18, off := (0 : Nat) } (0 : Nat) [Value.int IntKind.i64 n45, Value.int IntKind.i64 n46, Value.int IntKind.i64 n47, Value.slice p48 k49 k50, Value.int IntKind.i64 n51, Value.int IntKind.i64 n52, Value.int IntKind.i64 n53, Value.int IntKind.i64 n54, Value.int IntKind.i64 n55, Value.int IntKind.i64 n56, Value.int IntKind.i64 n57, Value.int IntKind.i64 n58]) ∧
     LetW (setRow w44 { block := b18, off := (0 : Nat) } (0 : Nat) [Value.int IntKind.i64 n45, Value.int IntKind.i64 n46, Value.int IntKind.i64 n47, Value.slice p48 k49 k50, Value.int IntKind.i64 n51, Value.int IntKind.i64 n52, Value.int IntKind.i64 n53, Value.int IntKind.i64 n54, Value.int IntKind.i64 n55, Value.int IntKind.i64 n56, Value.int IntKind.i64 n57, Value.int IntKind.i64 n58]) fun w59 =>
     ∃ n60 : Int,
     ∃ n61 : Int,
     ∃ n62 : Int,
     ∃ p63 : Option Addr,
     ∃ k64 : Nat,
     ∃ k65 : Nat,
     ∃ n66 : Int,
     ∃ n67 : Int,
     ∃ n68 : Int,
     ∃ n69 : Int,
     ∃ n70 : Int,
     ∃ n71 : Int,
     ∃ n72 : Int,
     ∃ n73 : Int,
     (
      Row w59 { block := b18, off := (0 : Nat) } (0 : Nat) [Value.int IntKind.i64 n60, Value.int IntKind.i64 n61, Value.int IntKind.i64 n62, Value.slice p63 k64 k65, Value.int IntKind.i64 n66, Value.int IntKind.i64 n67, Value.int IntKind.i64 n68, Value.int IntKind.i64 n69, Value.int IntKind.i64 n70, Value.int IntKind.i64 n71, Value.int IntKind.i64 n72, Value.int IntKind.i64 n73]) ∧
     Ca Try.prog (45 : Nat) #[Value.agg #[Value.int IntKind.i64 n60, Value.int IntKind.i64 n61, Value.int IntKind.i64 n62, Value.slice p63 k64 k65, Value.int IntKind.i64 n66, Value.int IntKind.i64 n67, Value.int IntKind.i64 n68, Value.int IntKind.i64 n69, Value.int IntKind.i64 n70, Value.int IntKind.i64 n71, Value.int IntKind.i64 n72, Value.int IntKind.i64 n73], Value.int IntKind.i64 (0 : Int)] w59 fun e74 w75 =>
     ∃ p76 : Option Addr,
     ∃ n77 : Int,
     (
      e74 = Ending.returned (Value.tuple #[Value.pointer p76, Value.int IntKind.i64 n77])) ∧
     Br (n77 != (0 : Int))
      (
       R (Ending.returned (Value.bool false)) w75)
      (
       LetA (Obj.cells #[Value.int IntKind.i64 (0 : Int), Value.int IntKind.i64 (1 : Int)] (64 : Nat)) w75 fun b78 w79 =>
       LetA (Obj.cells #[Value.int IntKind.i64 (0 : Int), Value.int IntKind.i64 (0 : Int), Value.int IntKind.i64 (0 : Int), Value.int IntKind.i64 (0 : Int), Value.int IntKind.i64 (0 : Int), Value.int IntKind.i64 (0 : Int), Value.int IntKind.i64 (0 : Int), Value.int IntKind.i64 (0 : Int), Value.string { data := #[] }, Value.string { data := #[] }, Value.int IntKind.i64 (0 : Int), Value.int IntKind.i64 (0 : Int), Value.string { data := #[] }, Value.int IntKind.i64 (0 : Int), Value.int IntKind.i64 (0 : Int), Value.int IntKind.i64 (0 : Int), Value.int IntKind.i64 (0 : Int), Value.int IntKind.i64 (0 : Int), Value.int IntKind.i64 (0 : Int), Value.int IntKind.i64 (0 : Int), Value.string { data := #[] }, Value.string { data := #[] }, Value.int IntKind.i64 (0 : Int), Value.int IntKind.i64 (0 : Int), Value.slice none (0 : Nat) (0 : Nat), Value.int IntKind.i64 (0 : Int), Value.int IntKind.i64 (0 : Int), Value.int IntKind.i64 (0 : Int), Value.int IntKind.i64 (0 : Int)] (53 : Nat)) w79 fun b80 w81 =>
       (
        WrRow w81 { block := b80, off := (0 : Nat) } (0 : Nat) [Value.int IntKind.i64 (8 : Int), Value.int IntKind.i64 (0 : Int), Value.int IntKind.i64 (0 : Int), Value.int IntKind.i64 (0 : Int), Value.int IntKind.i64 (0 : Int), Value.int IntKind.i64 (0 : Int), Value.int IntKind.i64 (0 : Int), Value.int IntKind.i64 (0 : Int), Value.string { data := #[] }, Value.string { data := #[] }, Value.int IntKind.i64 (0 : Int), Value.int IntKind.i64 (0 : Int), Value.string { data := #[] }, Value.int IntKind.i64 (0 : Int), Value.int IntKind.i64 (0 : Int), Value.int IntKind.i64 (0 : Int), Value.int IntKind.i64 (0 : Int), Value.int IntKind.i64 (0 : Int), Value.int IntKind.i64 (0 : Int), Value.int IntKind.i64 (0 : Int), Value.string { data := #[] }, Value.string { data := #[] }, Value.int IntKind.i64 (0 : Int), Value.int IntKind.i64 (1 : Int), Value.slice (some { block := b78, off := (0 : Nat) }) (1 : Nat) (1 : Nat), Value.int IntKind.i64 (-1 : Int), Value.int IntKind.i64 (0 : Int), Value.int IntKind.i64 (0 : Int), Value.int IntKind.i64 (0 : Int)]) ∧
       LetW (setRow w81 { block := b80, off := (0 : Nat) } (0 : Nat) [Value.int IntKind.i64 (8 : Int), Value.int IntKind.i64 (0 : Int), Value.int IntKind.i64 (0 : Int), Value.int IntKind.i64 (0 : Int), Value.int IntKind.i64 (0 : Int), Value.int IntKind.i64 (0 : Int), Value.int IntKind.i64 (0 : Int), Value.int IntKind.i64 (0 : Int), Value.string { data := #[] }, Value.string { data := #[] }, Value.int IntKind.i64 (0 : Int), Value.int IntKind.i64 (0 : Int), Value.string { data := #[] }, Value.int IntKind.i64 (0 : Int), Value.int IntKind.i64 (0 : Int), Value.int IntKind.i64 (0 : Int), Value.int IntKind.i64 (0 : Int), Value.int IntKind.i64 (0 : Int), Value.int IntKind.i64 (0 : Int), Value.int IntKind.i64 (0 : Int), Value.string { data := #[] }, Value.string { data := #[] }, Value.int IntKind.i64 (0 : Int), Value.int IntKind.i64 (1 : Int), Value.slice (some { block := b78, off := (0 : Nat) }) (1 : Nat) (1 : Nat), Value.int IntKind.i64 (-1 : Int), Value.int IntKind.i64 (0 : Int), Value.int IntKind.i64 (0 : Int), Value.int IntKind.i64 (0 : Int)]) fun w82 =>
       ∃ I83 : Nat → List Value → World → Prop,
       (
        ∃ k84 : Nat,
        I83 k84 [Value.int IntKind.i64 (0 : Int), Value.int IntKind.i64 (0 : Int), Value.int IntKind.i64 (0 : Int), Value.bool false, Value.int IntKind.i64 (0 : Int)] w82) ∧
       ∀ n85 : Int,
       ∀ n86 : Int,
       ∀ n87 : Int,
       ∀ b88 : Bool,
       ∀ n89 : Int,
       ∀ k90 : Nat,
       ∀ w91 : World,
       (
        I83 k90 [Value.int IntKind.i64 n85, Value.int IntKind.i64 n86, Value.int IntKind.i64 n87, Value.bool b88, Value.int IntKind.i64 n89] w91) →
       Br (decide (n89 < (↑k16 : Int)))
        (
         Ca Try.prog (38 : Nat) #[Value.pointer p76, Value.agg #[Value.int IntKind.i64 (2 : Int), Value.string { data := #[(107 : UInt8)] }, Value.string { data := #[] }, Value.int IntKind.i64 (0 : Int)], Value.int IntKind.i64 (0 : Int), Value.int IntKind.i64 (549755813888 : Int), Value.int IntKind.i64 n86] w91 fun e92 w93 =>
         ∃ p94 : Option Addr,
         ∃ k95 : Nat,
         ∃ k96 : Nat,
         ∃ n97 : Int,
         (
          e92 = Ending.returned (Value.tuple #[Value.slice p94 k95 k96, Value.int IntKind.i64 n97])) ∧
         ∃ I98 : List Value → World → Prop,
         (
          Br (n97 == (0 : Int))
           (
            LetI (IntKind.i64.wrap (n85 + (1 : Int))) fun n99 =>
            I98 [Value.int IntKind.i64 n99] w93)
           (
            I98 [Value.int IntKind.i64 n85] w93)) ∧
         ∀ n100 : Int,
         ∀ w101 : World,
         (
          I98 [Value.int IntKind.i64 n100] w101) →
         ∃ I102 : Nat → List Value → World → Prop,
         (
          ∃ k103 : Nat,
          I102 k103 [Value.int IntKind.i64 n86, Value.slice p94 k95 k96, Value.int IntKind.i64 n87, Value.int IntKind.i64 (0 : Int)] w101) ∧
         ∀ n104 : Int,
         ∀ p105 : Option Addr,
         ∀ k106 : Nat,
         ∀ k107 : Nat,
         ∀ n108 : Int,
         ∀ n109 : Int,
         ∀ k110 : Nat,
         ∀ w111 : World,
         (
          I102 k110 [Value.int IntKind.i64 n104, Value.slice p105 k106 k107, Value.int IntKind.i64 n108, Value.int IntKind.i64 n109] w111) →
         NilOk p15 fun a112 =>
         (
          (
           (0 : Int) ≤ n89) ∧
          n89 < (↑k16 : Int)) ∧
         ∃ n113 : Int,
         (
          w111.cell? (a112.add (n89.toNat * (1 : Nat))) = some (Value.int IntKind.u8 n113)) ∧
         LetI (IntKind.i64.wrap n113) fun n114 =>
         (
          (9 : Int) ≠ (0 : Int)) ∧
         LetI (n114.tmod (9 : Int)) fun n115 =>
         Br (decide (n109 ≤ n115))
          (
           Br (decide (n109 > (0 : Int)))
            (
             LetI (IntKind.i64.wrap (n104 + (1 : Int))) fun n116 =>
             Ca Try.prog (41 : Nat) #[Value.pointer p76, Value.int IntKind.i64 n116] w111 fun e117 w118 =>
             ∃ p119 : Option Addr,
             ∃ k120 : Nat,
             ∃ k121 : Nat,
             (
              e117 = Ending.returned (Value.slice p119 k120 k121)) ∧
             ∃ I122 : Nat → List Value → World → Prop,
             (
              ∃ k123 : Nat,
              I122 k123 [Value.slice p119 k120 k121, Value.int IntKind.i64 n108, Value.int IntKind.i64 (0 : Int)] w118) ∧
             ∀ p124 : Option Addr,
             ∀ k125 : Nat,
             ∀ k126 : Nat,
             ∀ n127 : Int,
             ∀ n128 : Int,
             ∀ k129 : Nat,
             ∀ w130 : World,
             (
              I122 k129 [Value.slice p124 k125 k126, Value.int IntKind.i64 n127, Value.int IntKind.i64 n128] w130) →
             Br (decide (n128 < (3 : Int)))
              (
               Br (decide ((↑k125 : Int) > (0 : Int)))
                (
                 NilOk p124 fun a131 =>
                 (
                  (
                   (0 : Int) ≤ (0 : Int)) ∧
                  (0 : Int) < (↑k125 : Int)) ∧
                 ∃ n132 : Int,
                 (
                  w130.cell? (a131.add (1 : Nat)) = some (Value.int IntKind.i64 n132)) ∧
                 Br (n132 == (7 : Int))
                  (
                   ∃ n133 : Int,
                   ∃ n134 : Int,
                   ∃ n135 : Int,
                   ∃ n136 : Int,
                   ∃ n137 : Int,
                   ∃ n138 : Int,
                   ∃ n139 : Int,
                   ∃ n140 : Int,
                   ∃ s141 : ByteArray,
                   ∃ s142 : ByteArray,
                   ∃ n143 : Int,
                   ∃ n144 : Int,
                   ∃ s145 : ByteArray,
                   ∃ n146 : Int,
                   ∃ n147 : Int,
                   ∃ n148 : Int,
                   ∃ n149 : Int,
                   ∃ n150 : Int,
                   ∃ n151 : Int,
                   ∃ n152 : Int,
                   ∃ s153 : ByteArray,
                   ∃ s154 : ByteArray,
                   ∃ n155 : Int,
                   ∃ n156 : Int,
                   ∃ p157 : Option Addr,
                   ∃ k158 : Nat,
                   ∃ k159 : Nat,
                   ∃ n160 : Int,
                   ∃ n161 : Int,
                   ∃ n162 : Int,
                   ∃ n163 : Int,
                   (
                    Row w130 { block := b80, off := (0 : Nat) } (0 : Nat) [Value.int IntKind.i64 n133, Value.int IntKind.i64 n134, Value.int IntKind.i64 n135, Value.int IntKind.i64 n136, Value.int IntKind.i64 n137, Value.int IntKind.i64 n138, Value.int IntKind.i64 n139, Value.int IntKind.i64 n140, Value.string s141, Value.string s142, Value.int IntKind.i64 n143, Value.int IntKind.i64 n144, Value.string s145, Value.int IntKind.i64 n146, Value.int IntKind.i64 n147, Value.int IntKind.i64 n148, Value.int IntKind.i64 n149, Value.int IntKind.i64 n150, Value.int IntKind.i64 n151, Value.int IntKind.i64 n152, Value.string s153, Value.string s154, Value.int IntKind.i64 n155, Value.int IntKind.i64 n156, Value.slice p157 k158 k159, Value.int IntKind.i64 n160, Value.int IntKind.i64 n161, Value.int IntKind.i64 n162, Value.int IntKind.i64 n163]) ∧
                   Ca Try.prog (40 : Nat) #[Value.pointer p76, Value.agg #[Value.int IntKind.i64 n133, Value.int IntKind.i64 n134, Value.int IntKind.i64 n135, Value.int IntKind.i64 n136, Value.int IntKind.i64 n137, Value.int IntKind.i64 n138, Value.int IntKind.i64 n139, Value.int IntKind.i64 n140, Value.string s141, Value.string s142, Value.int IntKind.i64 n143, Value.int IntKind.i64 n144, Value.string s145, Value.int IntKind.i64 n146, Value.int IntKind.i64 n147, Value.int IntKind.i64 n148, Value.int IntKind.i64 n149, Value.int IntKind.i64 n150, Value.int IntKind.i64 n151, Value.int IntKind.i64 n152, Value.string s153, Value.string s154, Value.int IntKind.i64 n155, Value.int IntKind.i64 n156, Value.slice p157 k158 k159, Value.int IntKind.i64 n160, Value.int IntKind.i64 n161, Value.int IntKind.i64 n162, Value.int IntKind.i64 n163], Value.int IntKind.i64 n116] w130 fun e164 w165 =>
                   ∃ p166 : Option Addr,
                   ∃ k167 : Nat,
                   ∃ k168 : Nat,
                   (
                    e164 = Ending.returned (Value.slice p166 k167 k168)) ∧
                   LetI (IntKind.i64.wrap (n128 + (1 : Int))) fun n169 =>
                   ∃ k170 : Nat,
                   (
                    k170 < k129) ∧
                   I122 k170 [Value.slice p166 k167 k168, Value.int IntKind.i64 n127, Value.int IntKind.i64 n169] w165)
                  (
                   LetI (IntKind.i64.wrap (n127 + (1 : Int))) fun n171 =>
                   Ca Try.prog (43 : Nat) #[Value.pointer p76] w130 fun e172 w173 =>
                   ∃ n174 : Int,
                   (
                    e172 = Ending.returned (Value.int IntKind.i64 n174)) ∧
                   Ca Try.prog (44 : Nat) #[Value.pointer p76] w173 fun e175 w176 =>
                   ∃ n177 : Int,
                   (
                    e175 = Ending.returned (Value.int IntKind.i64 n177)) ∧
                   Ca Try.prog (40 : Nat) #[Value.pointer p76, Value.agg #[Value.int IntKind.i64 (3 : Int), Value.int IntKind.i64 (0 : Int), Value.int IntKind.i64 (0 : Int), Value.int IntKind.i64 n174, Value.int IntKind.i64 n177, Value.int IntKind.i64 (0 : Int), Value.int IntKind.i64 (0 : Int), Value.int IntKind.i64 (0 : Int), Value.string { data := #[] }, Value.string { data := #[] }, Value.int IntKind.i64 (0 : Int), Value.int IntKind.i64 (0 : Int), Value.string { data := #[] }, Value.int IntKind.i64 (0 : Int), Value.int IntKind.i64 (0 : Int), Value.int IntKind.i64 (1 : Int), Value.int IntKind.i64 (0 : Int), Value.int IntKind.i64 (0 : Int), Value.int IntKind.i64 (0 : Int), Value.int IntKind.i64 (0 : Int), Value.string { data := #[] }, Value.string { data := #[] }, Value.int IntKind.i64 (0 : Int), Value.int IntKind.i64 (0 : Int), Value.slice none (0 : Nat) (0 : Nat), Value.int IntKind.i64 (0 : Int), Value.int IntKind.i64 (0 : Int), Value.int IntKind.i64 (0 : Int), Value.int IntKind.i64 (0 : Int)], Value.int IntKind.i64 n116] w176 fun e178 w179 =>
                   ∃ p180 : Option Addr,
                   ∃ k181 : Nat,
                   ∃ k182 : Nat,
                   (
                    e178 = Ending.returned (Value.slice p180 k181 k182)) ∧
                   LetI (IntKind.i64.wrap (n128 + (1 : Int))) fun n183 =>
                   ∃ k184 : Nat,
                   (
                    k184 < k129) ∧
                   I122 k184 [Value.slice p180 k181 k182, Value.int IntKind.i64 n171, Value.int IntKind.i64 n183] w179))
                (
                 LetI (IntKind.i64.wrap (n109 + (1 : Int))) fun n185 =>
                 ∃ k186 : Nat,
                 (
                  k186 < k110) ∧
                 I102 k186 [Value.int IntKind.i64 n116, Value.slice p124 k125 k126, Value.int IntKind.i64 n127, Value.int IntKind.i64 n185] w130))
              (
               LetI (IntKind.i64.wrap (n109 + (1 : Int))) fun n187 =>
               ∃ k188 : Nat,
               (
                k188 < k110) ∧
               I102 k188 [Value.int IntKind.i64 n116, Value.slice p124 k125 k126, Value.int IntKind.i64 n127, Value.int IntKind.i64 n187] w130))
            (
             ∃ I189 : Nat → List Value → World → Prop,
             (
              ∃ k190 : Nat,
              I189 k190 [Value.slice p105 k106 k107, Value.int IntKind.i64 n108, Value.int IntKind.i64 (0 : Int)] w111) ∧
             ∀ p191 : Option Addr,
             ∀ k192 : Nat,
             ∀ k193 : Nat,
             ∀ n194 : Int,
             ∀ n195 : Int,
             ∀ k196 : Nat,
             ∀ w197 : World,
             (
              I189 k196 [Value.slice p191 k192 k193, Value.int IntKind.i64 n194, Value.int IntKind.i64 n195] w197) →
             Br (decide (n195 < (3 : Int)))
              (
               Br (decide ((↑k192 : Int) > (0 : Int)))
                (
                 NilOk p191 fun a198 =>
                 (
                  (
                   (0 : Int) ≤ (0 : Int)) ∧
                  (0 : Int) < (↑k192 : Int)) ∧
                 ∃ n199 : Int,
                 (
                  w197.cell? (a198.add (1 : Nat)) = some (Value.int IntKind.i64 n199)) ∧
                 Br (n199 == (7 : Int))
                  (
                   ∃ n200 : Int,
                   ∃ n201 : Int,
                   ∃ n202 : Int,
                   ∃ n203 : Int,
                   ∃ n204 : Int,
                   ∃ n205 : Int,
                   ∃ n206 : Int,
                   ∃ n207 : Int,
                   ∃ s208 : ByteArray,
                   ∃ s209 : ByteArray,
                   ∃ n210 : Int,
                   ∃ n211 : Int,
                   ∃ s212 : ByteArray,
                   ∃ n213 : Int,
                   ∃ n214 : Int,
                   ∃ n215 : Int,
                   ∃ n216 : Int,
                   ∃ n217 : Int,
                   ∃ n218 : Int,
                   ∃ n219 : Int,
                   ∃ s220 : ByteArray,
                   ∃ s221 : ByteArray,
                   ∃ n222 : Int,
                   ∃ n223 : Int,
                   ∃ p224 : Option Addr,
                   ∃ k225 : Nat,
                   ∃ k226 : Nat,
                   ∃ n227 : Int,
                   ∃ n228 : Int,
                   ∃ n229 : Int,
                   ∃ n230 : Int,
                   (
                    Row w197 { block := b80, off := (0 : Nat) } (0 : Nat) [Value.int IntKind.i64 n200, Value.int IntKind.i64 n201, Value.int IntKind.i64 n202, Value.int IntKind.i64 n203, Value.int IntKind.i64 n204, Value.int IntKind.i64 n205, Value.int IntKind.i64 n206, Value.int IntKind.i64 n207, Value.string s208, Value.string s209, Value.int IntKind.i64 n210, Value.int IntKind.i64 n211, Value.string s212, Value.int IntKind.i64 n213, Value.int IntKind.i64 n214, Value.int IntKind.i64 n215, Value.int IntKind.i64 n216, Value.int IntKind.i64 n217, Value.int IntKind.i64 n218, Value.int IntKind.i64 n219, Value.string s220, Value.string s221, Value.int IntKind.i64 n222, Value.int IntKind.i64 n223, Value.slice p224 k225 k226, Value.int IntKind.i64 n227, Value.int IntKind.i64 n228, Value.int IntKind.i64 n229, Value.int IntKind.i64 n230]) ∧
                   Ca Try.prog (40 : Nat) #[Value.pointer p76, Value.agg #[Value.int IntKind.i64 n200, Value.int IntKind.i64 n201, Value.int IntKind.i64 n202, Value.int IntKind.i64 n203, Value.int IntKind.i64 n204, Value.int IntKind.i64 n205, Value.int IntKind.i64 n206, Value.int IntKind.i64 n207, Value.string s208, Value.string s209, Value.int IntKind.i64 n210, Value.int IntKind.i64 n211, Value.string s212, Value.int IntKind.i64 n213, Value.int IntKind.i64 n214, Value.int IntKind.i64 n215, Value.int IntKind.i64 n216, Value.int IntKind.i64 n217, Value.int IntKind.i64 n218, Value.int IntKind.i64 n219, Value.string s220, Value.string s221, Value.int IntKind.i64 n222, Value.int IntKind.i64 n223, Value.slice p224 k225 k226, Value.int IntKind.i64 n227, Value.int IntKind.i64 n228, Value.int IntKind.i64 n229, Value.int IntKind.i64 n230], Value.int IntKind.i64 n104] w197 fun e231 w232 =>
                   ∃ p233 : Option Addr,
                   ∃ k234 : Nat,
                   ∃ k235 : Nat,
                   (
                    e231 = Ending.returned (Value.slice p233 k234 k235)) ∧
                   LetI (IntKind.i64.wrap (n195 + (1 : Int))) fun n236 =>
                   ∃ k237 : Nat,
                   (
                    k237 < k196) ∧
                   I189 k237 [Value.slice p233 k234 k235, Value.int IntKind.i64 n194, Value.int IntKind.i64 n236] w232)
                  (
                   LetI (IntKind.i64.wrap (n194 + (1 : Int))) fun n238 =>
                   Ca Try.prog (43 : Nat) #[Value.pointer p76] w197 fun e239 w240 =>
                   ∃ n241 : Int,
                   (
                    e239 = Ending.returned (Value.int IntKind.i64 n241)) ∧
                   Ca Try.prog (44 : Nat) #[Value.pointer p76] w240 fun e242 w243 =>
                   ∃ n244 : Int,
                   (
                    e242 = Ending.returned (Value.int IntKind.i64 n244)) ∧
                   Ca Try.prog (40 : Nat) #[Value.pointer p76, Value.agg #[Value.int IntKind.i64 (3 : Int), Value.int IntKind.i64 (0 : Int), Value.int IntKind.i64 (0 : Int), Value.int IntKind.i64 n241, Value.int IntKind.i64 n244, Value.int IntKind.i64 (0 : Int), Value.int IntKind.i64 (0 : Int), Value.int IntKind.i64 (0 : Int), Value.string { data := #[] }, Value.string { data := #[] }, Value.int IntKind.i64 (0 : Int), Value.int IntKind.i64 (0 : Int), Value.string { data := #[] }, Value.int IntKind.i64 (0 : Int), Value.int IntKind.i64 (0 : Int), Value.int IntKind.i64 (1 : Int), Value.int IntKind.i64 (0 : Int), Value.int IntKind.i64 (0 : Int), Value.int IntKind.i64 (0 : Int), Value.int IntKind.i64 (0 : Int), Value.string { data := #[] }, Value.string { data := #[] }, Value.int IntKind.i64 (0 : Int), Value.int IntKind.i64 (0 : Int), Value.slice none (0 : Nat) (0 : Nat), Value.int IntKind.i64 (0 : Int), Value.int IntKind.i64 (0 : Int), Value.int IntKind.i64 (0 : Int), Value.int IntKind.i64 (0 : Int)], Value.int IntKind.i64 n104] w243 fun e245 w246 =>
                   ∃ p247 : Option Addr,
                   ∃ k248 : Nat,
                   ∃ k249 : Nat,
                   (
                    e245 = Ending.returned (Value.slice p247 k248 k249)) ∧
                   LetI (IntKind.i64.wrap (n195 + (1 : Int))) fun n250 =>
                   ∃ k251 : Nat,
                   (
                    k251 < k196) ∧
                   I189 k251 [Value.slice p247 k248 k249, Value.int IntKind.i64 n238, Value.int IntKind.i64 n250] w246))
                (
                 LetI (IntKind.i64.wrap (n109 + (1 : Int))) fun n252 =>
                 ∃ k253 : Nat,
                 (
                  k253 < k110) ∧
                 I102 k253 [Value.int IntKind.i64 n104, Value.slice p191 k192 k193, Value.int IntKind.i64 n194, Value.int IntKind.i64 n252] w197))
              (
               LetI (IntKind.i64.wrap (n109 + (1 : Int))) fun n254 =>
               ∃ k255 : Nat,
               (
                k255 < k110) ∧
               I102 k255 [Value.int IntKind.i64 n104, Value.slice p191 k192 k193, Value.int IntKind.i64 n194, Value.int IntKind.i64 n254] w197)))
          (
           ∃ n256 : Int,
           (
            w111.cell? { block := b18, off := (10 : Nat) } = some (Value.int IntKind.i64 n256)) ∧
           LetI (IntKind.i64.wrap (n100 + n256)) fun n257 =>
           ∃ n258 : Int,
           (
            w111.cell? { block := b18, off := (11 : Nat) } = some (Value.int IntKind.i64 n258)) ∧
           (
            n258 ≠ (0 : Int)) ∧
           LetI (IntKind.i64.wrap (n104.tdiv n258)) fun n259 =>
           LetI (IntKind.i64.wrap (n257 + n259)) fun n260 =>
           Br (decide (n108 > n260))
            (
             R (Ending.returned (Value.bool false)) w111)
            (
             LetI (IntKind.i64.wrap (n89 + (1 : Int))) fun n261 =>
             ∃ k262 : Nat,
             (
              k262 < k90) ∧
             I83 k262 [Value.int IntKind.i64 n100, Value.int IntKind.i64 n104, Value.int IntKind.i64 n108, Value.bool b88, Value.int IntKind.i64 n261] w111)))
        (
         Ca Try.prog (37 : Nat) #[] w91 fun e263 w264 =>
         ∃ b265 : Bool,
         (
          e263 = Ending.returned (Value.bool b265)) ∧
         R (Ending.returned (Value.bool b265)) w264))))
theorem lawKBudget_ok (n1 : Int) (n2 : Int) (n3 : Int) (p4 : Option Addr) (k5 : Nat) (k6 : Nat) (n7 : Int) (n8 : Int) (n9 : Int) (n10 : Int) (n11 : Int) (n12 : Int) (n13 : Int) (n14 : Int) (p15 : Option Addr) (k16 : Nat) (k17 : Nat) (w : World) (R : Ending → World → Prop) (h : lawKBudget n1 n2 n3 p4 k5 k6 n7 n8 n9 n10 n11 n12 n13 n14 p15 k16 k17 w R) : Ca Try.prog 11 #[Value.agg #[Value.int IntKind.i64 n1, Value.int IntKind.i64 n2, Value.int IntKind.i64 n3, Value.slice p4 k5 k6, Value.int IntKind.i64 n7, Value.int IntKind.i64 n8, Value.int IntKind.i64 n9, Value.int IntKind.i64 n10, Value.int IntKind.i64 n11, Value.int IntKind.i64 n12, Value.int IntKind.i64 n13, Value.int IntKind.i64 n14], Value.slice p15 k16 k17] w R :=
  Ca.of_fvc (c := bodyOf Try.f11) (by kernel_rfl) Try.func11 (by kernel_rfl) [15] (Eq.mp (by kernel_rfl) h)

end Go.Proofs.Ytljipmhkpnigkaa
