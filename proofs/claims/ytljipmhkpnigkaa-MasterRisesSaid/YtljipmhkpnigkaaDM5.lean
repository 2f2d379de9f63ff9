/- The verification conditions of this seat's functions, printed by a program; the kernel holds each against the loaded code. -/
import Derived.Test.YtljipmhkpnigkaaProg
import Derived.KernelRfl
import Derived.Test.YtljipmhkpnigkaaV5
set_option maxRecDepth 100000
namespace Go.Proofs.Ytljipmhkpnigkaa
open Go Go.Vc Go.Proofs
def lawMRises (n1 : Int) (n2 : Int) (n3 : Int) (p4 : Option Addr) (k5 : Nat) (k6 : Nat) (n7 : Int) (n8 : Int) (n9 : Int) (n10 : Int) (n11 : Int) (n12 : Int) (n13 : Int) (n14 : Int) (p15 : Option Addr) (k16 : Nat) (k17 : Nat) (p18 : Option Addr) (k19 : Nat) (_k20 : Nat) (w : World) (R : Ending → World → Prop) : Prop :=
 LetA (Obj.cells #[Value.int IntKind.i64 n1, Value.int IntKind.i64 n2, Value.int IntKind.i64 n3, Value.slice p4 k5 k6, Value.int IntKind.i64 n7, Value.int IntKind.i64 n8, Value.int IntKind.i64 n9, Value.int IntKind.i64 n10, Value.int IntKind.i64 n11, Value.int IntKind.i64 n12, Value.int IntKind.i64 n13, Value.int IntKind.i64 n14] (24 : Nat)) w fun b21 w22 =>
 ∃ p23 : Option Addr,
 ∃ k24 : Nat,
 ∃ k25 : Nat,
 (
  w22.cell? { block := b21, off := (3 : Nat) } = some (Value.slice p23 k24 k25)) ∧
 Br (decide ((↑k24 : Int) > (20 : Int)))
  (
   Ca Try.prog (25 : Nat) #[] w22 fun e26 w27 =>
   ∃ b28 : Bool,
   (
    e26 = Ending.returned (Value.bool b28)) ∧
   R (Ending.returned (Value.bool b28)) w27)
  (
   Ca Try.prog (24 : Nat) #[Value.slice p15 k16 k17, Value.int IntKind.i64 (80 : Int)] w22 fun e29 w30 =>
   ∃ b31 : Bool,
   (
    e29 = Ending.returned (Value.bool b31)) ∧
   Br (b31)
    (
     Ca Try.prog (25 : Nat) #[] w30 fun e32 w33 =>
     ∃ b34 : Bool,
     (
      e32 = Ending.returned (Value.bool b34)) ∧
     R (Ending.returned (Value.bool b34)) w33)
    (
     Br (decide ((↑k19 : Int) > (80 : Int)))
      (
       Ca Try.prog (25 : Nat) #[] w30 fun e35 w36 =>
       ∃ b37 : Bool,
       (
        e35 = Ending.returned (Value.bool b37)) ∧
       R (Ending.returned (Value.bool b37)) w36)
      (
       ∃ n38 : Int,
       ∃ n39 : Int,
       ∃ n40 : Int,
       ∃ p41 : Option Addr,
       ∃ k42 : Nat,
       ∃ k43 : Nat,
       ∃ n44 : Int,
       ∃ n45 : Int,
       ∃ n46 : Int,
       ∃ n47 : Int,
       ∃ n48 : Int,
       ∃ n49 : Int,
       ∃ n50 : Int,
       ∃ n51 : Int,
       (
        Row w30 { block := b21, off := (0 : Nat) } (0 : Nat) [Value.int IntKind.i64 n38, Value.int IntKind.i64 n39, Value.int IntKind.i64 n40, Value.slice p41 k42 k43, Value.int IntKind.i64 n44, Value.int IntKind.i64 n45, Value.int IntKind.i64 n46, Value.int IntKind.i64 n47, Value.int IntKind.i64 n48, Value.int IntKind.i64 n49, Value.int IntKind.i64 n50, Value.int IntKind.i64 n51]) ∧
       Ca Try.prog (13 : Nat) #[Value.agg #[Value.int IntKind.i64 n38, Value.int IntKind.i64 n39, Value.int IntKind.i64 n40, Value.slice p41 k42 k43, Value.int IntKind.i64 n44, Value.int IntKind.i64 n45, Value.int IntKind.i64 n46, Value.int IntKind.i64 n47, Value.int IntKind.i64 n48, Value.int IntKind.i64 n49, Value.int IntKind.i64 n50, Value.int IntKind.i64 n51]] w30 fun e52 w53 =>
       ∃ n54 : Int,
       ∃ n55 : Int,
       ∃ n56 : Int,
       ∃ p57 : Option Addr,
       ∃ k58 : Nat,
       ∃ k59 : Nat,
       ∃ n60 : Int,
       ∃ n61 : Int,
       ∃ n62 : Int,
       ∃ n63 : Int,
       ∃ n64 : Int,
       ∃ n65 : Int,
       ∃ n66 : Int,
       ∃ n67 : Int,
       (
        e52 = Ending.returned (Value.agg #[Value.int IntKind.i64 n54, Value.int IntKind.i64 n55, Value.int IntKind.i64 n56, Value.slice p57 k58 k59, Value.int IntKind.i64 n60, Value.int IntKind.i64 n61, Value.int IntKind.i64 n62, Value.int IntKind.i64 n63, Value.int IntKind.i64 n64, Value.int IntKind.i64 n65, Value.int IntKind.i64 n66, Value.int IntKind.i64 n67])) ∧
       (
        WrRow w53 { block := b21, off := (0 : Nat) } (0 : Nat) [Value.int IntKind.i64 n54, Value.int IntKind.i64 n55, Value.int IntKind.i64 n56, Value.slice p57 k58 k59, Value.int IntKind.i64 n60, Value.int IntKind.i64 n61, Value.int IntKind.i64 n62, Value.int IntKind.i64 n63, Value.int IntKind.i64 n64, Value.int IntKind.i64 n65, Value.int IntKind.i64 n66, Value.int IntKind.i64 n67]) ∧
       LetW (setRow w53 { block := b21, off := (0 : Nat) } (0 : Nat) [Value.int IntKind.i64 n54, Value.int IntKind.i64 n55, Value.int IntKind.i64 n56, Value.slice p57 k58 k59, Value.int IntKind.i64 n60, Value.int IntKind.i64 n61, Value.int IntKind.i64 n62, Value.int IntKind.i64 n63, Value.int IntKind.i64 n64, Value.int IntKind.i64 n65, Value.int IntKind.i64 n66, Value.int IntKind.i64 n67]) fun w68 =>
       ∃ n69 : Int,
       ∃ n70 : Int,
       ∃ n71 : Int,
       ∃ p72 : Option Addr,
       ∃ k73 : Nat,
       ∃ k74 : Nat,
       ∃ n75 : Int,
       ∃ n76 : Int,
       ∃ n77 : Int,
       ∃ n78 : Int,
       ∃ n79 : Int,
       ∃ n80 : Int,
       ∃ n81 : Int,
       ∃ n82 : Int,
       (
        Row w68 { block := b21, off := (0 : Nat) } (0 : Nat) [Value.int IntKind.i64 n69, Value.int IntKind.i64 n70, Value.int IntKind.i64 n71, Value.slice p72 k73 k74, Value.int IntKind.i64 n75, Value.int IntKind.i64 n76, Value.int IntKind.i64 n77, Value.int IntKind.i64 n78, Value.int IntKind.i64 n79, Value.int IntKind.i64 n80, Value.int IntKind.i64 n81, Value.int IntKind.i64 n82]) ∧
       Ca Try.prog (26 : Nat) #[Value.agg #[Value.int IntKind.i64 n69, Value.int IntKind.i64 n70, Value.int IntKind.i64 n71, Value.slice p72 k73 k74, Value.int IntKind.i64 n75, Value.int IntKind.i64 n76, Value.int IntKind.i64 n77, Value.int IntKind.i64 n78, Value.int IntKind.i64 n79, Value.int IntKind.i64 n80, Value.int IntKind.i64 n81, Value.int IntKind.i64 n82]] w68 fun e83 w84 =>
       ∃ p85 : Option Addr,
       ∃ n86 : Int,
       (
        e83 = Ending.returned (Value.tuple #[Value.pointer p85, Value.int IntKind.i64 n86])) ∧
       Br (n86 != (0 : Int))
        (
         R (Ending.returned (Value.bool false)) w84)
        (
         ∃ I87 : Nat → List Value → World → Prop,
         (
          ∃ k88 : Nat,
          I87 k88 [Value.int IntKind.i64 (0 : Int), Value.bool false, Value.int IntKind.i64 (0 : Int)] w84) ∧
         ∀ n89 : Int,
         ∀ b90 : Bool,
         ∀ n91 : Int,
         ∀ k92 : Nat,
         ∀ w93 : World,
         (
          I87 k92 [Value.int IntKind.i64 n89, Value.bool b90, Value.int IntKind.i64 n91] w93) →
         Br (decide (n91 < (↑k16 : Int)))
          (
           NilOk p15 fun a94 =>
           (
            (
             (0 : Int) ≤ n91) ∧
            n91 < (↑k16 : Int)) ∧
           ∃ n95 : Int,
           ∃ n96 : Int,
           ∃ n97 : Int,
           ∃ n98 : Int,
           ∃ n99 : Int,
           ∃ n100 : Int,
           ∃ n101 : Int,
           ∃ n102 : Int,
           ∃ n103 : Int,
           ∃ n104 : Int,
           ∃ n105 : Int,
           ∃ n106 : Int,
           ∃ s107 : ByteArray,
           ∃ s108 : ByteArray,
           ∃ n109 : Int,
           ∃ n110 : Int,
           ∃ s111 : ByteArray,
           ∃ n112 : Int,
           ∃ n113 : Int,
           ∃ n114 : Int,
           ∃ n115 : Int,
           ∃ n116 : Int,
           ∃ n117 : Int,
           ∃ n118 : Int,
           ∃ s119 : ByteArray,
           ∃ s120 : ByteArray,
           ∃ n121 : Int,
           ∃ n122 : Int,
           ∃ p123 : Option Addr,
           ∃ k124 : Nat,
           ∃ k125 : Nat,
           ∃ n126 : Int,
           ∃ n127 : Int,
           ∃ n128 : Int,
           ∃ n129 : Int,
           (
            Row w93 (a94.add (n91.toNat * (33 : Nat))) (0 : Nat) [Value.int IntKind.u8 n95, Value.int IntKind.u8 n96, Value.int IntKind.u8 n97, Value.int IntKind.i64 n98, Value.int IntKind.i64 n99, Value.int IntKind.i64 n100, Value.int IntKind.i64 n101, Value.int IntKind.i64 n102, Value.int IntKind.i64 n103, Value.int IntKind.i64 n104, Value.int IntKind.i64 n105, Value.int IntKind.i64 n106, Value.string s107, Value.string s108, Value.int IntKind.i64 n109, Value.int IntKind.i64 n110, Value.string s111, Value.int IntKind.i64 n112, Value.int IntKind.i64 n113, Value.int IntKind.i64 n114, Value.int IntKind.i64 n115, Value.int IntKind.i64 n116, Value.int IntKind.i64 n117, Value.int IntKind.i64 n118, Value.string s119, Value.string s120, Value.int IntKind.i64 n121, Value.int IntKind.i64 n122, Value.slice p123 k124 k125, Value.int IntKind.i64 n126, Value.int IntKind.i64 n127, Value.int IntKind.i64 n128, Value.int IntKind.i64 n129]) ∧
           LetA (Obj.cells #[Value.int IntKind.u8 (0 : Int), Value.int IntKind.u8 (0 : Int), Value.int IntKind.u8 (0 : Int), Value.int IntKind.i64 (0 : Int), Value.int IntKind.i64 (0 : Int), Value.int IntKind.i64 (0 : Int), Value.int IntKind.i64 (0 : Int), Value.int IntKind.i64 (0 : Int), Value.int IntKind.i64 (0 : Int), Value.int IntKind.i64 (0 : Int), Value.int IntKind.i64 (0 : Int), Value.int IntKind.i64 (0 : Int), Value.string { data := #[] }, Value.string { data := #[] }, Value.int IntKind.i64 (0 : Int), Value.int IntKind.i64 (0 : Int), Value.string { data := #[] }, Value.int IntKind.i64 (0 : Int), Value.int IntKind.i64 (0 : Int), Value.int IntKind.i64 (0 : Int), Value.int IntKind.i64 (0 : Int), Value.int IntKind.i64 (0 : Int), Value.int IntKind.i64 (0 : Int), Value.int IntKind.i64 (0 : Int), Value.string { data := #[] }, Value.string { data := #[] }, Value.int IntKind.i64 (0 : Int), Value.int IntKind.i64 (0 : Int), Value.slice none (0 : Nat) (0 : Nat), Value.int IntKind.i64 (0 : Int), Value.int IntKind.i64 (0 : Int), Value.int IntKind.i64 (0 : Int), Value.int IntKind.i64 (0 : Int)] (55 : Nat)) w93 fun b130 w131 =>
           (
            WrRow w131 { block := b130, off := (0 : Nat) } (0 : Nat) [Value.int IntKind.u8 n95, Value.int IntKind.u8 n96, Value.int IntKind.u8 n97, Value.int IntKind.i64 n98, Value.int IntKind.i64 n99, Value.int IntKind.i64 n100, Value.int IntKind.i64 n101, Value.int IntKind.i64 n102, Value.int IntKind.i64 n103, Value.int IntKind.i64 n104, Value.int IntKind.i64 n105, Value.int IntKind.i64 n106, Value.string s107, Value.string s108, Value.int IntKind.i64 n109, Value.int IntKind.i64 n110, Value.string s111, Value.int IntKind.i64 n112, Value.int IntKind.i64 n113, Value.int IntKind.i64 n114, Value.int IntKind.i64 n115, Value.int IntKind.i64 n116, Value.int IntKind.i64 n117, Value.int IntKind.i64 n118, Value.string s119, Value.string s120, Value.int IntKind.i64 n121, Value.int IntKind.i64 n122, Value.slice p123 k124 k125, Value.int IntKind.i64 n126, Value.int IntKind.i64 n127, Value.int IntKind.i64 n128, Value.int IntKind.i64 n129]) ∧
           LetW (setRow w131 { block := b130, off := (0 : Nat) } (0 : Nat) [Value.int IntKind.u8 n95, Value.int IntKind.u8 n96, Value.int IntKind.u8 n97, Value.int IntKind.i64 n98, Value.int IntKind.i64 n99, Value.int IntKind.i64 n100, Value.int IntKind.i64 n101, Value.int IntKind.i64 n102, Value.int IntKind.i64 n103, Value.int IntKind.i64 n104, Value.int IntKind.i64 n105, Value.int IntKind.i64 n106, Value.string s107, Value.string s108, Value.int IntKind.i64 n109, Value.int IntKind.i64 n110, Value.string s111, Value.int IntKind.i64 n112, Value.int IntKind.i64 n113, Value.int IntKind.i64 n114, Value.int IntKind.i64 n115, Value.int IntKind.i64 n116, Value.int IntKind.i64 n117, Value.int IntKind.i64 n118, Value.string s119, Value.string s120, Value.int IntKind.i64 n121, Value.int IntKind.i64 n122, Value.slice p123 k124 k125, Value.int IntKind.i64 n126, Value.int IntKind.i64 n127, Value.int IntKind.i64 n128, Value.int IntKind.i64 n129]) fun w132 =>
           ∃ I133 : List Value → World → Prop,
           (
            Br (decide (n91 < (↑k19 : Int)))
             (
              NilOk p18 fun a134 =>
              (
               (
                (0 : Int) ≤ n91) ∧
               n91 < (↑k19 : Int)) ∧
              ∃ n135 : Int,
              (
               w132.cell? (a134.add (n91.toNat * (1 : Nat))) = some (Value.int IntKind.u8 n135)) ∧
              LetI (IntKind.i64.wrap n135) fun n136 =>
              LetI (IntKind.i64.wrap (n89 + n136)) fun n137 =>
              I133 [Value.int IntKind.i64 n137] w132)
             (
              I133 [Value.int IntKind.i64 n89] w132)) ∧
           ∀ n138 : Int,
           ∀ w139 : World,
           (
            I133 [Value.int IntKind.i64 n138] w139) →
           ∃ n140 : Int,
           (
            w139.cell? { block := b130, off := (1 : Nat) } = some (Value.int IntKind.u8 n140)) ∧
           LetI (IntKind.i64.wrap n140) fun n141 =>
           (
            (7 : Int) ≠ (0 : Int)) ∧
           LetI (n141.tmod (7 : Int)) fun n142 =>
           Ca Try.prog (28 : Nat) #[Value.pointer p85] w139 fun e143 w144 =>
           ∃ n145 : Int,
           ∃ p146 : Option Addr,
           ∃ k147 : Nat,
           ∃ k148 : Nat,
           ∃ n149 : Int,
           (
            e143 = Ending.returned (Value.agg #[Value.int IntKind.i64 n145, Value.slice p146 k147 k148, Value.int IntKind.i64 n149])) ∧
           LetA (Obj.cells #[Value.int IntKind.i64 (0 : Int), Value.slice none (0 : Nat) (0 : Nat), Value.int IntKind.i64 (0 : Int)] (32 : Nat)) w144 fun b150 w151 =>
           (
            WrRow w151 { block := b150, off := (0 : Nat) } (0 : Nat) [Value.int IntKind.i64 n145, Value.slice p146 k147 k148, Value.int IntKind.i64 n149]) ∧
           LetW (setRow w151 { block := b150, off := (0 : Nat) } (0 : Nat) [Value.int IntKind.i64 n145, Value.slice p146 k147 k148, Value.int IntKind.i64 n149]) fun w152 =>
           ∃ I153 : List Value → World → Prop,
           (
            ∃ n154 : Int,
            (
             w152.cell? { block := b130, off := (0 : Nat) } = some (Value.int IntKind.u8 n154)) ∧
            (
             (13 : Int) ≠ (0 : Int)) ∧
            LetI (n154.tmod (13 : Int)) fun n155 =>
            Br (n155 == (7 : Int))
             (
              Ca Try.prog (30 : Nat) #[Value.pointer p85, Value.int IntKind.i64 n142] w152 fun e156 w157 =>
              ∃ p158 : Option Addr,
              ∃ k159 : Nat,
              ∃ k160 : Nat,
              ∃ n161 : Int,
              (
               e156 = Ending.returned (Value.tuple #[Value.slice p158 k159 k160, Value.int IntKind.i64 n161])) ∧
              I153 [Value.int IntKind.i64 n161, Value.int IntKind.i64 (↑k159 : Int), Value.bool b90] w157)
             (
              Br (n155 == (8 : Int))
               (
                Ca Try.prog (29 : Nat) #[Value.pointer p85, Value.int IntKind.i64 n142, Value.int IntKind.i64 n138] w152 fun e162 w163 =>
                ∃ p164 : Option Addr,
                ∃ k165 : Nat,
                ∃ k166 : Nat,
                ∃ n167 : Int,
                (
                 e162 = Ending.returned (Value.tuple #[Value.slice p164 k165 k166, Value.int IntKind.i64 n167])) ∧
                Br (n167 == (0 : Int))
                 (
                  Ca Try.prog (28 : Nat) #[Value.pointer p85] w163 fun e168 w169 =>
                  ∃ n170 : Int,
                  ∃ p171 : Option Addr,
                  ∃ k172 : Nat,
                  ∃ k173 : Nat,
                  ∃ n174 : Int,
                  (
                   e168 = Ending.returned (Value.agg #[Value.int IntKind.i64 n170, Value.slice p171 k172 k173, Value.int IntKind.i64 n174])) ∧
                  Ca Try.prog (23 : Nat) #[Value.agg #[Value.int IntKind.i64 n170, Value.slice p171 k172 k173, Value.int IntKind.i64 n174]] w169 fun e175 w176 =>
                  ∃ n177 : Int,
                  (
                   e175 = Ending.returned (Value.int IntKind.i64 n177)) ∧
                  Br (n177 != n142)
                   (
                    R (Ending.returned (Value.bool false)) w176)
                   (
                    Ca Try.prog (33 : Nat) #[Value.pointer p85, Value.int IntKind.i64 n142] w176 fun e178 w179 =>
                    ∃ b180 : Bool,
                    (
                     e178 = Ending.returned (Value.bool b180)) ∧
                    Br (b180)
                     (
                      R (Ending.returned (Value.bool false)) w179)
                     (
                      I153 [Value.int IntKind.i64 n167, Value.int IntKind.i64 (↑k165 : Int), Value.bool b90] w179)))
                 (
                  I153 [Value.int IntKind.i64 n167, Value.int IntKind.i64 (↑k165 : Int), Value.bool b90] w163))
               (
                Br (n155 == (9 : Int))
                 (
                  Ca Try.prog (34 : Nat) #[Value.pointer p85, Value.int IntKind.i64 n142] w152 fun e181 w182 =>
                  ∃ p183 : Option Addr,
                  ∃ k184 : Nat,
                  ∃ k185 : Nat,
                  ∃ n186 : Int,
                  (
                   e181 = Ending.returned (Value.tuple #[Value.slice p183 k184 k185, Value.int IntKind.i64 n186])) ∧
                  Br (n186 == (0 : Int))
                   (
                    Ca Try.prog (28 : Nat) #[Value.pointer p85] w182 fun e187 w188 =>
                    ∃ n189 : Int,
                    ∃ p190 : Option Addr,
                    ∃ k191 : Nat,
                    ∃ k192 : Nat,
                    ∃ n193 : Int,
                    (
                     e187 = Ending.returned (Value.agg #[Value.int IntKind.i64 n189, Value.slice p190 k191 k192, Value.int IntKind.i64 n193])) ∧
                    Br (n193 != n142)
                     (
                      R (Ending.returned (Value.bool false)) w188)
                     (
                      I153 [Value.int IntKind.i64 n186, Value.int IntKind.i64 (↑k184 : Int), Value.bool b90] w188))
                   (
                    I153 [Value.int IntKind.i64 n186, Value.int IntKind.i64 (↑k184 : Int), Value.bool b90] w182))
                 (
                  Br (n155 == (10 : Int))
                   (
                    Br (n155 == (10 : Int))
                     (
                      Ca Try.prog (31 : Nat) #[Value.pointer p85, Value.int IntKind.i64 n138] w152 fun e194 w195 =>
                      ∃ p196 : Option Addr,
                      ∃ k197 : Nat,
                      ∃ k198 : Nat,
                      (
                       e194 = Ending.returned (Value.slice p196 k197 k198)) ∧
                      I153 [Value.int IntKind.i64 (4 : Int), Value.int IntKind.i64 (↑k197 : Int), Value.bool b90] w195)
                     (
                      Br (n155 == (5 : Int))
                       (
                        ∃ n199 : Int,
                        (
                         w152.cell? { block := b150, off := (0 : Nat) } = some (Value.int IntKind.i64 n199)) ∧
                        Ca Try.prog (27 : Nat) #[Value.pointer p85, Value.int IntKind.i64 n142, Value.agg #[Value.int IntKind.i64 (12 : Int), Value.int IntKind.i64 n199, Value.int IntKind.i64 (0 : Int), Value.int IntKind.i64 (0 : Int), Value.int IntKind.i64 (0 : Int), Value.int IntKind.i64 (0 : Int), Value.int IntKind.i64 (0 : Int), Value.int IntKind.i64 (0 : Int), Value.string { data := #[] }, Value.string { data := #[] }, Value.int IntKind.i64 (0 : Int), Value.int IntKind.i64 (0 : Int), Value.string { data := #[] }, Value.int IntKind.i64 (0 : Int), Value.int IntKind.i64 (0 : Int), Value.int IntKind.i64 (0 : Int), Value.int IntKind.i64 (0 : Int), Value.int IntKind.i64 (0 : Int), Value.int IntKind.i64 (0 : Int), Value.int IntKind.i64 (0 : Int), Value.string { data := #[] }, Value.string { data := #[] }, Value.int IntKind.i64 (0 : Int), Value.int IntKind.i64 (0 : Int), Value.slice none (0 : Nat) (0 : Nat), Value.int IntKind.i64 (0 : Int), Value.int IntKind.i64 (0 : Int), Value.int IntKind.i64 (0 : Int), Value.int IntKind.i64 (0 : Int)], Value.int IntKind.i64 n138] w152 fun e200 w201 =>
                        ∃ p202 : Option Addr,
                        ∃ k203 : Nat,
                        ∃ k204 : Nat,
                        (
                         e200 = Ending.returned (Value.slice p202 k203 k204)) ∧
                        I153 [Value.int IntKind.i64 (4 : Int), Value.int IntKind.i64 (↑k203 : Int), Value.bool b90] w201)
                       (
                        ∃ n205 : Int,
                        (
                         w152.cell? { block := b150, off := (0 : Nat) } = some (Value.int IntKind.i64 n205)) ∧
                        ∃ n206 : Int,
                        (
                         w152.cell? { block := b130, off := (2 : Nat) } = some (Value.int IntKind.u8 n206)) ∧
                        LetI (IntKind.i64.wrap n206) fun n207 =>
                        (
                         (2 : Int) ≠ (0 : Int)) ∧
                        LetI (n207.tmod (2 : Int)) fun n208 =>
                        Ca Try.prog (27 : Nat) #[Value.pointer p85, Value.int IntKind.i64 n142, Value.agg #[Value.int IntKind.i64 (11 : Int), Value.int IntKind.i64 n205, Value.int IntKind.i64 (0 : Int), Value.int IntKind.i64 (0 : Int), Value.int IntKind.i64 (0 : Int), Value.int IntKind.i64 (0 : Int), Value.int IntKind.i64 (0 : Int), Value.int IntKind.i64 (0 : Int), Value.string { data := #[] }, Value.string { data := #[] }, Value.int IntKind.i64 (0 : Int), Value.int IntKind.i64 (0 : Int), Value.string { data := #[] }, Value.int IntKind.i64 (0 : Int), Value.int IntKind.i64 (0 : Int), Value.int IntKind.i64 (0 : Int), Value.int IntKind.i64 (0 : Int), Value.int IntKind.i64 (0 : Int), Value.int IntKind.i64 (0 : Int), Value.int IntKind.i64 (0 : Int), Value.string { data := #[] }, Value.string { data := #[] }, Value.int IntKind.i64 (0 : Int), Value.int IntKind.i64 (0 : Int), Value.slice none (0 : Nat) (0 : Nat), Value.int IntKind.i64 (0 : Int), Value.int IntKind.i64 n208, Value.int IntKind.i64 (0 : Int), Value.int IntKind.i64 (0 : Int)], Value.int IntKind.i64 n138] w152 fun e209 w210 =>
                        ∃ p211 : Option Addr,
                        ∃ k212 : Nat,
                        ∃ k213 : Nat,
                        (
                         e209 = Ending.returned (Value.slice p211 k212 k213)) ∧
                        I153 [Value.int IntKind.i64 (4 : Int), Value.int IntKind.i64 (↑k212 : Int), Value.bool b90] w210)))
                   (
                    Br (n155 == (11 : Int))
                     (
                      Ca Try.prog (31 : Nat) #[Value.pointer p85, Value.int IntKind.i64 n138] w152 fun e214 w215 =>
                      ∃ p216 : Option Addr,
                      ∃ k217 : Nat,
                      ∃ k218 : Nat,
                      (
                       e214 = Ending.returned (Value.slice p216 k217 k218)) ∧
                      I153 [Value.int IntKind.i64 (4 : Int), Value.int IntKind.i64 (↑k217 : Int), Value.bool b90] w215)
                     (
                      Br (n155 == (5 : Int))
                       (
                        ∃ n219 : Int,
                        (
                         w152.cell? { block := b150, off := (0 : Nat) } = some (Value.int IntKind.i64 n219)) ∧
                        Ca Try.prog (27 : Nat) #[Value.pointer p85, Value.int IntKind.i64 n142, Value.agg #[Value.int IntKind.i64 (12 : Int), Value.int IntKind.i64 n219, Value.int IntKind.i64 (0 : Int), Value.int IntKind.i64 (0 : Int), Value.int IntKind.i64 (0 : Int), Value.int IntKind.i64 (0 : Int), Value.int IntKind.i64 (0 : Int), Value.int IntKind.i64 (0 : Int), Value.string { data := #[] }, Value.string { data := #[] }, Value.int IntKind.i64 (0 : Int), Value.int IntKind.i64 (0 : Int), Value.string { data := #[] }, Value.int IntKind.i64 (0 : Int), Value.int IntKind.i64 (0 : Int), Value.int IntKind.i64 (0 : Int), Value.int IntKind.i64 (0 : Int), Value.int IntKind.i64 (0 : Int), Value.int IntKind.i64 (0 : Int), Value.int IntKind.i64 (0 : Int), Value.string { data := #[] }, Value.string { data := #[] }, Value.int IntKind.i64 (0 : Int), Value.int IntKind.i64 (0 : Int), Value.slice none (0 : Nat) (0 : Nat), Value.int IntKind.i64 (0 : Int), Value.int IntKind.i64 (0 : Int), Value.int IntKind.i64 (0 : Int), Value.int IntKind.i64 (0 : Int)], Value.int IntKind.i64 n138] w152 fun e220 w221 =>
                        ∃ p222 : Option Addr,
                        ∃ k223 : Nat,
                        ∃ k224 : Nat,
                        (
                         e220 = Ending.returned (Value.slice p222 k223 k224)) ∧
                        I153 [Value.int IntKind.i64 (4 : Int), Value.int IntKind.i64 (↑k223 : Int), Value.bool b90] w221)
                       (
                        ∃ n225 : Int,
                        (
                         w152.cell? { block := b150, off := (0 : Nat) } = some (Value.int IntKind.i64 n225)) ∧
                        ∃ n226 : Int,
                        (
                         w152.cell? { block := b130, off := (2 : Nat) } = some (Value.int IntKind.u8 n226)) ∧
                        LetI (IntKind.i64.wrap n226) fun n227 =>
                        (
                         (2 : Int) ≠ (0 : Int)) ∧
                        LetI (n227.tmod (2 : Int)) fun n228 =>
                        Ca Try.prog (27 : Nat) #[Value.pointer p85, Value.int IntKind.i64 n142, Value.agg #[Value.int IntKind.i64 (11 : Int), Value.int IntKind.i64 n225, Value.int IntKind.i64 (0 : Int), Value.int IntKind.i64 (0 : Int), Value.int IntKind.i64 (0 : Int), Value.int IntKind.i64 (0 : Int), Value.int IntKind.i64 (0 : Int), Value.int IntKind.i64 (0 : Int), Value.string { data := #[] }, Value.string { data := #[] }, Value.int IntKind.i64 (0 : Int), Value.int IntKind.i64 (0 : Int), Value.string { data := #[] }, Value.int IntKind.i64 (0 : Int), Value.int IntKind.i64 (0 : Int), Value.int IntKind.i64 (0 : Int), Value.int IntKind.i64 (0 : Int), Value.int IntKind.i64 (0 : Int), Value.int IntKind.i64 (0 : Int), Value.int IntKind.i64 (0 : Int), Value.string { data := #[] }, Value.string { data := #[] }, Value.int IntKind.i64 (0 : Int), Value.int IntKind.i64 (0 : Int), Value.slice none (0 : Nat) (0 : Nat), Value.int IntKind.i64 (0 : Int), Value.int IntKind.i64 n228, Value.int IntKind.i64 (0 : Int), Value.int IntKind.i64 (0 : Int)], Value.int IntKind.i64 n138] w152 fun e229 w230 =>
                        ∃ p231 : Option Addr,
                        ∃ k232 : Nat,
                        ∃ k233 : Nat,
                        (
                         e229 = Ending.returned (Value.slice p231 k232 k233)) ∧
                        I153 [Value.int IntKind.i64 (4 : Int), Value.int IntKind.i64 (↑k232 : Int), Value.bool b90] w230))))))) ∧
           ∀ n234 : Int,
           ∀ n235 : Int,
           ∀ b236 : Bool,
           ∀ w237 : World,
           (
            I153 [Value.int IntKind.i64 n234, Value.int IntKind.i64 n235, Value.bool b236] w237) →
           Ca Try.prog (28 : Nat) #[Value.pointer p85] w237 fun e238 w239 =>
           ∃ n240 : Int,
           ∃ p241 : Option Addr,
           ∃ k242 : Nat,
           ∃ k243 : Nat,
           ∃ n244 : Int,
           (
            e238 = Ending.returned (Value.agg #[Value.int IntKind.i64 n240, Value.slice p241 k242 k243, Value.int IntKind.i64 n244])) ∧
           LetA (Obj.cells #[Value.int IntKind.i64 (0 : Int), Value.slice none (0 : Nat) (0 : Nat), Value.int IntKind.i64 (0 : Int)] (32 : Nat)) w239 fun b245 w246 =>
           (
            WrRow w246 { block := b245, off := (0 : Nat) } (0 : Nat) [Value.int IntKind.i64 n240, Value.slice p241 k242 k243, Value.int IntKind.i64 n244]) ∧
           LetW (setRow w246 { block := b245, off := (0 : Nat) } (0 : Nat) [Value.int IntKind.i64 n240, Value.slice p241 k242 k243, Value.int IntKind.i64 n244]) fun w247 =>
           ∃ n248 : Int,
           ∃ p249 : Option Addr,
           ∃ k250 : Nat,
           ∃ k251 : Nat,
           ∃ n252 : Int,
           (
            Row w247 { block := b150, off := (0 : Nat) } (0 : Nat) [Value.int IntKind.i64 n248, Value.slice p249 k250 k251, Value.int IntKind.i64 n252]) ∧
           ∃ n253 : Int,
           ∃ p254 : Option Addr,
           ∃ k255 : Nat,
           ∃ k256 : Nat,
           ∃ n257 : Int,
           (
            Row w247 { block := b245, off := (0 : Nat) } (0 : Nat) [Value.int IntKind.i64 n253, Value.slice p254 k255 k256, Value.int IntKind.i64 n257]) ∧
           Ca Try.prog (35 : Nat) #[Value.agg #[Value.int IntKind.i64 n248, Value.slice p249 k250 k251, Value.int IntKind.i64 n252], Value.agg #[Value.int IntKind.i64 n253, Value.slice p254 k255 k256, Value.int IntKind.i64 n257]] w247 fun e258 w259 =>
           ∃ b260 : Bool,
           (
            e258 = Ending.returned (Value.bool b260)) ∧
           ∃ n261 : Int,
           ∃ p262 : Option Addr,
           ∃ k263 : Nat,
           ∃ k264 : Nat,
           ∃ n265 : Int,
           (
            Row w259 { block := b245, off := (0 : Nat) } (0 : Nat) [Value.int IntKind.i64 n261, Value.slice p262 k263 k264, Value.int IntKind.i64 n265]) ∧
           Ca Try.prog (21 : Nat) #[Value.agg #[Value.int IntKind.i64 n261, Value.slice p262 k263 k264, Value.int IntKind.i64 n265]] w259 fun e266 w267 =>
           ∃ n268 : Int,
           (
            e266 = Ending.returned (Value.int IntKind.i64 n268)) ∧
           Br (n268 != (0 : Int))
            (
             R (Ending.returned (Value.bool false)) w267)
            (
             ∃ n269 : Int,
             (
              w267.cell? { block := b245, off := (0 : Nat) } = some (Value.int IntKind.i64 n269)) ∧
             ∃ n270 : Int,
             (
              w267.cell? { block := b150, off := (0 : Nat) } = some (Value.int IntKind.i64 n270)) ∧
             Br (decide (n269 < n270))
              (
               R (Ending.returned (Value.bool false)) w267)
              (
               ∃ n271 : Int,
               (
                w267.cell? { block := b245, off := (0 : Nat) } = some (Value.int IntKind.i64 n271)) ∧
               ∃ n272 : Int,
               (
                w267.cell? { block := b150, off := (0 : Nat) } = some (Value.int IntKind.i64 n272)) ∧
               Br (!b260 == (n271 == n272))
                (
                 R (Ending.returned (Value.bool false)) w267)
                (
                 ∃ n273 : Int,
                 (
                  w267.cell? { block := b245, off := (0 : Nat) } = some (Value.int IntKind.i64 n273)) ∧
                 ∃ n274 : Int,
                 (
                  w267.cell? { block := b150, off := (0 : Nat) } = some (Value.int IntKind.i64 n274)) ∧
                 LetI (IntKind.i64.wrap (n274 + (1 : Int))) fun n275 =>
                 Br (decide (n273 > n275))
                  (
                   ∃ n276 : Int,
                   (
                    w267.cell? { block := b245, off := (0 : Nat) } = some (Value.int IntKind.i64 n276)) ∧
                   ∃ n277 : Int,
                   (
                    w267.cell? { block := b150, off := (0 : Nat) } = some (Value.int IntKind.i64 n277)) ∧
                   ∃ p278 : Option Addr,
                   ∃ k279 : Nat,
                   ∃ k280 : Nat,
                   (
                    w267.cell? { block := b150, off := (1 : Nat) } = some (Value.slice p278 k279 k280)) ∧
                   LetI (IntKind.i64.wrap (n277 + (↑k279 : Int))) fun n281 =>
                   ∃ p282 : Option Addr,
                   ∃ k283 : Nat,
                   ∃ k284 : Nat,
                   (
                    w267.cell? { block := b245, off := (1 : Nat) } = some (Value.slice p282 k283 k284)) ∧
                   LetI (IntKind.i64.wrap (n281 - (↑k283 : Int))) fun n285 =>
                   Br (n276 != n285)
                    (
                     R (Ending.returned (Value.bool false)) w267)
                    (
                     Br (!b260)
                      (
                       ∃ n286 : Int,
                       (
                        w267.cell? { block := b21, off := (0 : Nat) } = some (Value.int IntKind.i64 n286)) ∧
                       Br (n235 != n286)
                        (
                         R (Ending.returned (Value.bool false)) w267)
                        (
                         Br (n234 == (0 : Int))
                          (
                           Br (b260)
                            (
                             R (Ending.returned (Value.bool false)) w267)
                            (
                             ∃ I287 : Nat → List Value → World → Prop,
                             (
                              ∃ k288 : Nat,
                              I287 k288 [Value.bool false, Value.int IntKind.i64 (0 : Int)] w267) ∧
                             ∀ b289 : Bool,
                             ∀ n290 : Int,
                             ∀ k291 : Nat,
                             ∀ w292 : World,
                             (
                              I287 k291 [Value.bool b289, Value.int IntKind.i64 n290] w292) →
                             ∃ p293 : Option Addr,
                             ∃ k294 : Nat,
                             ∃ k295 : Nat,
                             (
                              w292.cell? { block := b245, off := (1 : Nat) } = some (Value.slice p293 k294 k295)) ∧
                             Br (decide (n290 < (↑k294 : Int)))
                              (
                               Br (b289)
                                (
                                 LetI (IntKind.i64.wrap (n290 + (1 : Int))) fun n296 =>
                                 ∃ k297 : Nat,
                                 (
                                  k297 < k291) ∧
                                 I287 k297 [Value.bool true, Value.int IntKind.i64 n296] w292)
                                (
                                 ∃ p298 : Option Addr,
                                 ∃ k299 : Nat,
                                 ∃ k300 : Nat,
                                 (
                                  w292.cell? { block := b245, off := (1 : Nat) } = some (Value.slice p298 k299 k300)) ∧
                                 NilOk p298 fun a301 =>
                                 (
                                  (
                                   (0 : Int) ≤ n290) ∧
                                  n290 < (↑k299 : Int)) ∧
                                 ∃ n302 : Int,
                                 (
                                  w292.cell? (a301.add (n290.toNat * (2 : Nat))) = some (Value.int IntKind.i64 n302)) ∧
                                 Ca Try.prog (33 : Nat) #[Value.pointer p85, Value.int IntKind.i64 n302] w292 fun e303 w304 =>
                                 ∃ b305 : Bool,
                                 (
                                  e303 = Ending.returned (Value.bool b305)) ∧
                                 LetI (IntKind.i64.wrap (n290 + (1 : Int))) fun n306 =>
                                 ∃ k307 : Nat,
                                 (
                                  k307 < k291) ∧
                                 I287 k307 [Value.bool b305, Value.int IntKind.i64 n306] w304))
                              (
                               Br (!b289)
                                (
                                 R (Ending.returned (Value.bool false)) w292)
                                (
                                 LetI (IntKind.i64.wrap (n91 + (1 : Int))) fun n308 =>
                                 ∃ k309 : Nat,
                                 (
                                  k309 < k92) ∧
                                 I87 k309 [Value.int IntKind.i64 n138, Value.bool b236, Value.int IntKind.i64 n308] w292))))
                          (
                           ∃ I310 : Nat → List Value → World → Prop,
                           (
                            ∃ k311 : Nat,
                            I310 k311 [Value.bool false, Value.int IntKind.i64 (0 : Int)] w267) ∧
                           ∀ b312 : Bool,
                           ∀ n313 : Int,
                           ∀ k314 : Nat,
                           ∀ w315 : World,
                           (
                            I310 k314 [Value.bool b312, Value.int IntKind.i64 n313] w315) →
                           ∃ p316 : Option Addr,
                           ∃ k317 : Nat,
                           ∃ k318 : Nat,
                           (
                            w315.cell? { block := b245, off := (1 : Nat) } = some (Value.slice p316 k317 k318)) ∧
                           Br (decide (n313 < (↑k317 : Int)))
                            (
                             Br (b312)
                              (
                               LetI (IntKind.i64.wrap (n313 + (1 : Int))) fun n319 =>
                               ∃ k320 : Nat,
                               (
                                k320 < k314) ∧
                               I310 k320 [Value.bool true, Value.int IntKind.i64 n319] w315)
                              (
                               ∃ p321 : Option Addr,
                               ∃ k322 : Nat,
                               ∃ k323 : Nat,
                               (
                                w315.cell? { block := b245, off := (1 : Nat) } = some (Value.slice p321 k322 k323)) ∧
                               NilOk p321 fun a324 =>
                               (
                                (
                                 (0 : Int) ≤ n313) ∧
                                n313 < (↑k322 : Int)) ∧
                               ∃ n325 : Int,
                               (
                                w315.cell? (a324.add (n313.toNat * (2 : Nat))) = some (Value.int IntKind.i64 n325)) ∧
                               Ca Try.prog (33 : Nat) #[Value.pointer p85, Value.int IntKind.i64 n325] w315 fun e326 w327 =>
                               ∃ b328 : Bool,
                               (
                                e326 = Ending.returned (Value.bool b328)) ∧
                               LetI (IntKind.i64.wrap (n313 + (1 : Int))) fun n329 =>
                               ∃ k330 : Nat,
                               (
                                k330 < k314) ∧
                               I310 k330 [Value.bool b328, Value.int IntKind.i64 n329] w327))
                            (
                             Br (!b312)
                              (
                               R (Ending.returned (Value.bool false)) w315)
                              (
                               LetI (IntKind.i64.wrap (n91 + (1 : Int))) fun n331 =>
                               ∃ k332 : Nat,
                               (
                                k332 < k92) ∧
                               I87 k332 [Value.int IntKind.i64 n138, Value.bool b236, Value.int IntKind.i64 n331] w315)))))
                      (
                       Br (n234 == (0 : Int))
                        (
                         Br (b260)
                          (
                           R (Ending.returned (Value.bool false)) w267)
                          (
                           ∃ I333 : Nat → List Value → World → Prop,
                           (
                            ∃ k334 : Nat,
                            I333 k334 [Value.bool false, Value.int IntKind.i64 (0 : Int)] w267) ∧
                           ∀ b335 : Bool,
                           ∀ n336 : Int,
                           ∀ k337 : Nat,
                           ∀ w338 : World,
                           (
                            I333 k337 [Value.bool b335, Value.int IntKind.i64 n336] w338) →
                           ∃ p339 : Option Addr,
                           ∃ k340 : Nat,
                           ∃ k341 : Nat,
                           (
                            w338.cell? { block := b245, off := (1 : Nat) } = some (Value.slice p339 k340 k341)) ∧
                           Br (decide (n336 < (↑k340 : Int)))
                            (
                             Br (b335)
                              (
                               LetI (IntKind.i64.wrap (n336 + (1 : Int))) fun n342 =>
                               ∃ k343 : Nat,
                               (
                                k343 < k337) ∧
                               I333 k343 [Value.bool true, Value.int IntKind.i64 n342] w338)
                              (
                               ∃ p344 : Option Addr,
                               ∃ k345 : Nat,
                               ∃ k346 : Nat,
                               (
                                w338.cell? { block := b245, off := (1 : Nat) } = some (Value.slice p344 k345 k346)) ∧
                               NilOk p344 fun a347 =>
                               (
                                (
                                 (0 : Int) ≤ n336) ∧
                                n336 < (↑k345 : Int)) ∧
                               ∃ n348 : Int,
                               (
                                w338.cell? (a347.add (n336.toNat * (2 : Nat))) = some (Value.int IntKind.i64 n348)) ∧
                               Ca Try.prog (33 : Nat) #[Value.pointer p85, Value.int IntKind.i64 n348] w338 fun e349 w350 =>
                               ∃ b351 : Bool,
                               (
                                e349 = Ending.returned (Value.bool b351)) ∧
                               LetI (IntKind.i64.wrap (n336 + (1 : Int))) fun n352 =>
                               ∃ k353 : Nat,
                               (
                                k353 < k337) ∧
                               I333 k353 [Value.bool b351, Value.int IntKind.i64 n352] w350))
                            (
                             Br (!b335)
                              (
                               R (Ending.returned (Value.bool false)) w338)
                              (
                               LetI (IntKind.i64.wrap (n91 + (1 : Int))) fun n354 =>
                               ∃ k355 : Nat,
                               (
                                k355 < k92) ∧
                               I87 k355 [Value.int IntKind.i64 n138, Value.bool b236, Value.int IntKind.i64 n354] w338))))
                        (
                         ∃ I356 : Nat → List Value → World → Prop,
                         (
                          ∃ k357 : Nat,
                          I356 k357 [Value.bool false, Value.int IntKind.i64 (0 : Int)] w267) ∧
                         ∀ b358 : Bool,
                         ∀ n359 : Int,
                         ∀ k360 : Nat,
                         ∀ w361 : World,
                         (
                          I356 k360 [Value.bool b358, Value.int IntKind.i64 n359] w361) →
                         ∃ p362 : Option Addr,
                         ∃ k363 : Nat,
                         ∃ k364 : Nat,
                         (
                          w361.cell? { block := b245, off := (1 : Nat) } = some (Value.slice p362 k363 k364)) ∧
                         Br (decide (n359 < (↑k363 : Int)))
                          (
                           Br (b358)
                            (
                             LetI (IntKind.i64.wrap (n359 + (1 : Int))) fun n365 =>
                             ∃ k366 : Nat,
                             (
                              k366 < k360) ∧
                             I356 k366 [Value.bool true, Value.int IntKind.i64 n365] w361)
                            (
                             ∃ p367 : Option Addr,
                             ∃ k368 : Nat,
                             ∃ k369 : Nat,
                             (
                              w361.cell? { block := b245, off := (1 : Nat) } = some (Value.slice p367 k368 k369)) ∧
                             NilOk p367 fun a370 =>
                             (
                              (
                               (0 : Int) ≤ n359) ∧
                              n359 < (↑k368 : Int)) ∧
                             ∃ n371 : Int,
                             (
                              w361.cell? (a370.add (n359.toNat * (2 : Nat))) = some (Value.int IntKind.i64 n371)) ∧
                             Ca Try.prog (33 : Nat) #[Value.pointer p85, Value.int IntKind.i64 n371] w361 fun e372 w373 =>
                             ∃ b374 : Bool,
                             (
                              e372 = Ending.returned (Value.bool b374)) ∧
                             LetI (IntKind.i64.wrap (n359 + (1 : Int))) fun n375 =>
                             ∃ k376 : Nat,
                             (
                              k376 < k360) ∧
                             I356 k376 [Value.bool b374, Value.int IntKind.i64 n375] w373))
                          (
                           Br (!b358)
                            (
                             R (Ending.returned (Value.bool false)) w361)
                            (
                             LetI (IntKind.i64.wrap (n91 + (1 : Int))) fun n377 =>
                             ∃ k378 : Nat,
                             (
                              k378 < k92) ∧
                             I87 k378 [Value.int IntKind.i64 n138, Value.bool b236, Value.int IntKind.i64 n377] w361))))))
                  (
                   Br (!b260)
                    (
                     ∃ n379 : Int,
                     (
                      w267.cell? { block := b21, off := (0 : Nat) } = some (Value.int IntKind.i64 n379)) ∧
                     Br (n235 != n379)
                      (
                       R (Ending.returned (Value.bool false)) w267)
                      (
                       Br (n234 == (0 : Int))
                        (
                         Br (b260)
                          (
                           R (Ending.returned (Value.bool false)) w267)
                          (
                           ∃ I380 : Nat → List Value → World → Prop,
                           (
                            ∃ k381 : Nat,
                            I380 k381 [Value.bool false, Value.int IntKind.i64 (0 : Int)] w267) ∧
                           ∀ b382 : Bool,
                           ∀ n383 : Int,
                           ∀ k384 : Nat,
                           ∀ w385 : World,
                           (
                            I380 k384 [Value.bool b382, Value.int IntKind.i64 n383] w385) →
                           ∃ p386 : Option Addr,
                           ∃ k387 : Nat,
                           ∃ k388 : Nat,
                           (
                            w385.cell? { block := b245, off := (1 : Nat) } = some (Value.slice p386 k387 k388)) ∧
                           Br (decide (n383 < (↑k387 : Int)))
                            (
                             Br (b382)
                              (
                               LetI (IntKind.i64.wrap (n383 + (1 : Int))) fun n389 =>
                               ∃ k390 : Nat,
                               (
                                k390 < k384) ∧
                               I380 k390 [Value.bool true, Value.int IntKind.i64 n389] w385)
                              (
                               ∃ p391 : Option Addr,
                               ∃ k392 : Nat,
                               ∃ k393 : Nat,
                               (
                                w385.cell? { block := b245, off := (1 : Nat) } = some (Value.slice p391 k392 k393)) ∧
                               NilOk p391 fun a394 =>
                               (
                                (
                                 (0 : Int) ≤ n383) ∧
                                n383 < (↑k392 : Int)) ∧
                               ∃ n395 : Int,
                               (
                                w385.cell? (a394.add (n383.toNat * (2 : Nat))) = some (Value.int IntKind.i64 n395)) ∧
                               Ca Try.prog (33 : Nat) #[Value.pointer p85, Value.int IntKind.i64 n395] w385 fun e396 w397 =>
                               ∃ b398 : Bool,
                               (
                                e396 = Ending.returned (Value.bool b398)) ∧
                               LetI (IntKind.i64.wrap (n383 + (1 : Int))) fun n399 =>
                               ∃ k400 : Nat,
                               (
                                k400 < k384) ∧
                               I380 k400 [Value.bool b398, Value.int IntKind.i64 n399] w397))
                            (
                             Br (!b382)
                              (
                               R (Ending.returned (Value.bool false)) w385)
                              (
                               LetI (IntKind.i64.wrap (n91 + (1 : Int))) fun n401 =>
                               ∃ k402 : Nat,
                               (
                                k402 < k92) ∧
                               I87 k402 [Value.int IntKind.i64 n138, Value.bool b236, Value.int IntKind.i64 n401] w385))))
                        (
                         ∃ I403 : Nat → List Value → World → Prop,
                         (
                          ∃ k404 : Nat,
                          I403 k404 [Value.bool false, Value.int IntKind.i64 (0 : Int)] w267) ∧
                         ∀ b405 : Bool,
                         ∀ n406 : Int,
                         ∀ k407 : Nat,
                         ∀ w408 : World,
                         (
                          I403 k407 [Value.bool b405, Value.int IntKind.i64 n406] w408) →
                         ∃ p409 : Option Addr,
                         ∃ k410 : Nat,
                         ∃ k411 : Nat,
                         (
                          w408.cell? { block := b245, off := (1 : Nat) } = some (Value.slice p409 k410 k411)) ∧
                         Br (decide (n406 < (↑k410 : Int)))
                          (
                           Br (b405)
                            (
                             LetI (IntKind.i64.wrap (n406 + (1 : Int))) fun n412 =>
                             ∃ k413 : Nat,
                             (
                              k413 < k407) ∧
                             I403 k413 [Value.bool true, Value.int IntKind.i64 n412] w408)
                            (
                             ∃ p414 : Option Addr,
                             ∃ k415 : Nat,
                             ∃ k416 : Nat,
                             (
                              w408.cell? { block := b245, off := (1 : Nat) } = some (Value.slice p414 k415 k416)) ∧
                             NilOk p414 fun a417 =>
                             (
                              (
                               (0 : Int) ≤ n406) ∧
                              n406 < (↑k415 : Int)) ∧
                             ∃ n418 : Int,
                             (
                              w408.cell? (a417.add (n406.toNat * (2 : Nat))) = some (Value.int IntKind.i64 n418)) ∧
                             Ca Try.prog (33 : Nat) #[Value.pointer p85, Value.int IntKind.i64 n418] w408 fun e419 w420 =>
                             ∃ b421 : Bool,
                             (
                              e419 = Ending.returned (Value.bool b421)) ∧
                             LetI (IntKind.i64.wrap (n406 + (1 : Int))) fun n422 =>
                             ∃ k423 : Nat,
                             (
                              k423 < k407) ∧
                             I403 k423 [Value.bool b421, Value.int IntKind.i64 n422] w420))
                          (
                           Br (!b405)
                            (
                             R (Ending.returned (Value.bool false)) w408)
                            (
                             LetI (IntKind.i64.wrap (n91 + (1 : Int))) fun n424 =>
                             ∃ k425 : Nat,
                             (
                              k425 < k92) ∧
                             I87 k425 [Value.int IntKind.i64 n138, Value.bool b236, Value.int IntKind.i64 n424] w408)))))
                    (
                     Br (n234 == (0 : Int))
                      (
                       Br (b260)
                        (
                         R (Ending.returned (Value.bool false)) w267)
                        (
                         ∃ I426 : Nat → List Value → World → Prop,
                         (
                          ∃ k427 : Nat,
                          I426 k427 [Value.bool false, Value.int IntKind.i64 (0 : Int)] w267) ∧
                         ∀ b428 : Bool,
                         ∀ n429 : Int,
                         ∀ k430 : Nat,
                         ∀ w431 : World,
                         (
                          I426 k430 [Value.bool b428, Value.int IntKind.i64 n429] w431) →
                         ∃ p432 : Option Addr,
                         ∃ k433 : Nat,
                         ∃ k434 : Nat,
                         (
                          w431.cell? { block := b245, off := (1 : Nat) } = some (Value.slice p432 k433 k434)) ∧
                         Br (decide (n429 < (↑k433 : Int)))
                          (
                           Br (b428)
                            (
                             LetI (IntKind.i64.wrap (n429 + (1 : Int))) fun n435 =>
                             ∃ k436 : Nat,
                             (
                              k436 < k430) ∧
                             I426 k436 [Value.bool true, Value.int IntKind.i64 n435] w431)
                            (
                             ∃ p437 : Option Addr,
                             ∃ k438 : Nat,
                             ∃ k439 : Nat,
                             (
                              w431.cell? { block := b245, off := (1 : Nat) } = some (Value.slice p437 k438 k439)) ∧
                             NilOk p437 fun a440 =>
                             (
                              (
                               (0 : Int) ≤ n429) ∧
                              n429 < (↑k438 : Int)) ∧
                             ∃ n441 : Int,
                             (
                              w431.cell? (a440.add (n429.toNat * (2 : Nat))) = some (Value.int IntKind.i64 n441)) ∧
                             Ca Try.prog (33 : Nat) #[Value.pointer p85, Value.int IntKind.i64 n441] w431 fun e442 w443 =>
                             ∃ b444 : Bool,
                             (
                              e442 = Ending.returned (Value.bool b444)) ∧
                             LetI (IntKind.i64.wrap (n429 + (1 : Int))) fun n445 =>
                             ∃ k446 : Nat,
                             (
                              k446 < k430) ∧
                             I426 k446 [Value.bool b444, Value.int IntKind.i64 n445] w443))
                          (
                           Br (!b428)
                            (
                             R (Ending.returned (Value.bool false)) w431)
                            (
                             LetI (IntKind.i64.wrap (n91 + (1 : Int))) fun n447 =>
                             ∃ k448 : Nat,
                             (
                              k448 < k92) ∧
                             I87 k448 [Value.int IntKind.i64 n138, Value.bool b236, Value.int IntKind.i64 n447] w431))))
                      (
                       ∃ I449 : Nat → List Value → World → Prop,
                       (
                        ∃ k450 : Nat,
                        I449 k450 [Value.bool false, Value.int IntKind.i64 (0 : Int)] w267) ∧
                       ∀ b451 : Bool,
                       ∀ n452 : Int,
                       ∀ k453 : Nat,
                       ∀ w454 : World,
                       (
                        I449 k453 [Value.bool b451, Value.int IntKind.i64 n452] w454) →
                       ∃ p455 : Option Addr,
                       ∃ k456 : Nat,
                       ∃ k457 : Nat,
                       (
                        w454.cell? { block := b245, off := (1 : Nat) } = some (Value.slice p455 k456 k457)) ∧
                       Br (decide (n452 < (↑k456 : Int)))
                        (
                         Br (b451)
                          (
                           LetI (IntKind.i64.wrap (n452 + (1 : Int))) fun n458 =>
                           ∃ k459 : Nat,
                           (
                            k459 < k453) ∧
                           I449 k459 [Value.bool true, Value.int IntKind.i64 n458] w454)
                          (
                           ∃ p460 : Option Addr,
                           ∃ k461 : Nat,
                           ∃ k462 : Nat,
                           (
                            w454.cell? { block := b245, off := (1 : Nat) } = some (Value.slice p460 k461 k462)) ∧
                           NilOk p460 fun a463 =>
                           (
                            (
                             (0 : Int) ≤ n452) ∧
                            n452 < (↑k461 : Int)) ∧
                           ∃ n464 : Int,
                           (
                            w454.cell? (a463.add (n452.toNat * (2 : Nat))) = some (Value.int IntKind.i64 n464)) ∧
                           Ca Try.prog (33 : Nat) #[Value.pointer p85, Value.int IntKind.i64 n464] w454 fun e465 w466 =>
                           ∃ b467 : Bool,
                           (
                            e465 = Ending.returned (Value.bool b467)) ∧
                           LetI (IntKind.i64.wrap (n452 + (1 : Int))) fun n468 =>
                           ∃ k469 : Nat,
                           (
                            k469 < k453) ∧
                           I449 k469 [Value.bool b467, Value.int IntKind.i64 n468] w466))
                        (
                         Br (!b451)
                          (
                           R (Ending.returned (Value.bool false)) w454)
                          (
                           LetI (IntKind.i64.wrap (n91 + (1 : Int))) fun n470 =>
                           ∃ k471 : Nat,
                           (
                            k471 < k92) ∧
                           I87 k471 [Value.int IntKind.i64 n138, Value.bool b236, Value.int IntKind.i64 n470] w454)))))))))
          (
           Ca Try.prog (25 : Nat) #[] w93 fun e472 w473 =>
           ∃ b474 : Bool,
           (
            e472 = Ending.returned (Value.bool b474)) ∧
           R (Ending.returned (Value.bool b474)) w473)))))
theorem lawMRises_ok (n1 : Int) (n2 : Int) (n3 : Int) (p4 : Option Addr) (k5 : Nat) (k6 : Nat) (n7 : Int) (n8 : Int) (n9 : Int) (n10 : Int) (n11 : Int) (n12 : Int) (n13 : Int) (n14 : Int) (p15 : Option Addr) (k16 : Nat) (k17 : Nat) (p18 : Option Addr) (k19 : Nat) (k20 : Nat) (w : World) (R : Ending → World → Prop) (h : lawMRises n1 n2 n3 p4 k5 k6 n7 n8 n9 n10 n11 n12 n13 n14 p15 k16 k17 p18 k19 k20 w R) : Ca Try.prog 6 #[Value.agg #[Value.int IntKind.i64 n1, Value.int IntKind.i64 n2, Value.int IntKind.i64 n3, Value.slice p4 k5 k6, Value.int IntKind.i64 n7, Value.int IntKind.i64 n8, Value.int IntKind.i64 n9, Value.int IntKind.i64 n10, Value.int IntKind.i64 n11, Value.int IntKind.i64 n12, Value.int IntKind.i64 n13, Value.int IntKind.i64 n14], Value.slice p15 k16 k17, Value.slice p18 k19 k20] w R :=
  Ca.of_fvc (c := bodyOf Try.f6) (by kernel_rfl) Try.func6 (by kernel_rfl) [14, 38] (Eq.mp (by kernel_rfl) h)

end Go.Proofs.Ytljipmhkpnigkaa
