/- The verification conditions of this seat's functions, printed by a program; the kernel holds each against the loaded code. -/
import Derived.Test.YtljipmhkpnigkaaProg
import Derived.KernelRfl
import Derived.Test.YtljipmhkpnigkaaV5
set_option maxRecDepth 100000
namespace Go.Proofs.Ytljipmhkpnigkaa
open Go Go.Vc Go.Proofs
def lawMKeeps (n1 : Int) (n2 : Int) (n3 : Int) (p4 : Option Addr) (k5 : Nat) (k6 : Nat) (n7 : Int) (n8 : Int) (n9 : Int) (n10 : Int) (n11 : Int) (n12 : Int) (n13 : Int) (n14 : Int) (p15 : Option Addr) (k16 : Nat) (k17 : Nat) (p18 : Option Addr) (k19 : Nat) (_k20 : Nat) (w : World) (R : Ending → World → Prop) : Prop :=
 LetA (Obj.cells #[Value.int IntKind.i64 n1, Value.int IntKind.i64 n2, Value.int IntKind.i64 n3, Value.slice p4 k5 k6, Value.int IntKind.i64 n7, Value.int IntKind.i64 n8, Value.int IntKind.i64 n9, Value.int IntKind.i64 n10, Value.int IntKind.i64 n11, Value.int IntKind.i64 n12, Value.int IntKind.i64 n13, Value.int IntKind.i64 n14] (24 : Nat)) w fun b21 w22 =>
 ∃ p23 : Option Addr,
 ∃ k24 : Nat,
 ∃ k25 : Nat,
 (
  w22.cell? { block := b21, off := (3 : Nat) } = some (Value.slice p23 k24 k25)) ∧
 Br (decide ((↑k24 : Int) > (20 : Int)))
  (
   Ca Try.prog (25 : Nat) #[] w22 fun e26 w27 =>
   ∃ b28 : Bool,
   (
    e26 = Ending.returned (Value.bool b28)) ∧
   R (Ending.returned (Value.bool b28)) w27)
  (
   Ca Try.prog (24 : Nat) #[Value.slice p15 k16 k17, Value.int IntKind.i64 (40 : Int)] w22 fun e29 w30 =>
   ∃ b31 : Bool,
   (
    e29 = Ending.returned (Value.bool b31)) ∧
   Br (b31)
    (
     Ca Try.prog (25 : Nat) #[] w30 fun e32 w33 =>
     ∃ b34 : Bool,
     (
      e32 = Ending.returned (Value.bool b34)) ∧
     R (Ending.returned (Value.bool b34)) w33)
    (
     Br (decide ((↑k19 : Int) > (40 : Int)))
      (
       Ca Try.prog (25 : Nat) #[] w30 fun e35 w36 =>
       ∃ b37 : Bool,
       (
        e35 = Ending.returned (Value.bool b37)) ∧
       R (Ending.returned (Value.bool b37)) w36)
      (
       ∃ n38 : Int,
       ∃ n39 : Int,
       ∃ n40 : Int,
       ∃ p41 : Option Addr,
       ∃ k42 : Nat,
       ∃ k43 : Nat,
       ∃ n44 : Int,
       ∃ n45 : Int,
       ∃ n46 : Int,
       ∃ n47 : Int,
       ∃ n48 : Int,
       ∃ n49 : Int,
       ∃ n50 : Int,
       ∃ n51 : Int,
       (
        Row w30 { block := b21, off := (0 : Nat) } (0 : Nat) [Value.int IntKind.i64 n38, Value.int IntKind.i64 n39, Value.int IntKind.i64 n40, Value.slice p41 k42 k43, Value.int IntKind.i64 n44, Value.int IntKind.i64 n45, Value.int IntKind.i64 n46, Value.int IntKind.i64 n47, Value.int IntKind.i64 n48, Value.int IntKind.i64 n49, Value.int IntKind.i64 n50, Value.int IntKind.i64 n51]) ∧
       Ca Try.prog (14 : Nat) #[Value.agg #[Value.int IntKind.i64 n38, Value.int IntKind.i64 n39, Value.int IntKind.i64 n40, Value.slice p41 k42 k43, Value.int IntKind.i64 n44, Value.int IntKind.i64 n45, Value.int IntKind.i64 n46, Value.int IntKind.i64 n47, Value.int IntKind.i64 n48, Value.int IntKind.i64 n49, Value.int IntKind.i64 n50, Value.int IntKind.i64 n51]] w30 fun e52 w53 =>
       ∃ n54 : Int,
       ∃ n55 : Int,
       ∃ n56 : Int,
       ∃ p57 : Option Addr,
       ∃ k58 : Nat,
       ∃ k59 : Nat,
       ∃ n60 : Int,
       ∃ n61 : Int,
       ∃ n62 : Int,
       ∃ n63 : Int,
       ∃ n64 : Int,
       ∃ n65 : Int,
       ∃ n66 : Int,
       ∃ n67 : Int,
       (
        e52 = Ending.returned (Value.agg #[Value.int IntKind.i64 n54, Value.int IntKind.i64 n55, Value.int IntKind.i64 n56, Value.slice p57 k58 k59, Value.int IntKind.i64 n60, Value.int IntKind.i64 n61, Value.int IntKind.i64 n62, Value.int IntKind.i64 n63, Value.int IntKind.i64 n64, Value.int IntKind.i64 n65, Value.int IntKind.i64 n66, Value.int IntKind.i64 n67])) ∧
       (
        WrRow w53 { block := b21, off := (0 : Nat) } (0 : Nat) [Value.int IntKind.i64 n54, Value.int IntKind.i64 n55, Value.int IntKind.i64 n56, Value.slice p57 k58 k59, Value.int IntKind.i64 n60, Value.int IntKind.i64 n61, Value.int IntKind.i64 n62, Value.int IntKind.i64 n63, Value.int IntKind.i64 n64, Value.int IntKind.i64 n65, Value.int IntKind.i64 n66, Value.int IntKind.i64 n67]) ∧
       LetW (setRow w53 { block := b21, off := (0 : Nat) } (0 : Nat) [Value.int IntKind.i64 n54, Value.int IntKind.i64 n55, Value.int IntKind.i64 n56, Value.slice p57 k58 k59, Value.int IntKind.i64 n60, Value.int IntKind.i64 n61, Value.int IntKind.i64 n62, Value.int IntKind.i64 n63, Value.int IntKind.i64 n64, Value.int IntKind.i64 n65, Value.int IntKind.i64 n66, Value.int IntKind.i64 n67]) fun w68 =>
       ∃ n69 : Int,
       ∃ n70 : Int,
       ∃ n71 : Int,
       ∃ p72 : Option Addr,
       ∃ k73 : Nat,
       ∃ k74 : Nat,
       ∃ n75 : Int,
       ∃ n76 : Int,
       ∃ n77 : Int,
       ∃ n78 : Int,
       ∃ n79 : Int,
       ∃ n80 : Int,
       ∃ n81 : Int,
       ∃ n82 : Int,
       (
        Row w68 { block := b21, off := (0 : Nat) } (0 : Nat) [Value.int IntKind.i64 n69, Value.int IntKind.i64 n70, Value.int IntKind.i64 n71, Value.slice p72 k73 k74, Value.int IntKind.i64 n75, Value.int IntKind.i64 n76, Value.int IntKind.i64 n77, Value.int IntKind.i64 n78, Value.int IntKind.i64 n79, Value.int IntKind.i64 n80, Value.int IntKind.i64 n81, Value.int IntKind.i64 n82]) ∧
       Ca Try.prog (26 : Nat) #[Value.agg #[Value.int IntKind.i64 n69, Value.int IntKind.i64 n70, Value.int IntKind.i64 n71, Value.slice p72 k73 k74, Value.int IntKind.i64 n75, Value.int IntKind.i64 n76, Value.int IntKind.i64 n77, Value.int IntKind.i64 n78, Value.int IntKind.i64 n79, Value.int IntKind.i64 n80, Value.int IntKind.i64 n81, Value.int IntKind.i64 n82]] w68 fun e83 w84 =>
       ∃ p85 : Option Addr,
       ∃ n86 : Int,
       (
        e83 = Ending.returned (Value.tuple #[Value.pointer p85, Value.int IntKind.i64 n86])) ∧
       Br (n86 != (0 : Int))
        (
         R (Ending.returned (Value.bool false)) w84)
        (
         LetA (Obj.cells #[Value.int IntKind.i64 (0 : Int), Value.int IntKind.i64 (0 : Int), Value.int IntKind.i64 (0 : Int), Value.int IntKind.i64 (0 : Int), Value.int IntKind.i64 (0 : Int), Value.int IntKind.i64 (0 : Int)] (45 : Nat)) w84 fun b87 w88 =>
         ∃ I89 : Nat → List Value → World → Prop,
         (
          ∃ k90 : Nat,
          I89 k90 [Value.int IntKind.i64 (0 : Int), Value.bool false, Value.int IntKind.i64 (0 : Int)] w88) ∧
         ∀ n91 : Int,
         ∀ b92 : Bool,
         ∀ n93 : Int,
         ∀ k94 : Nat,
         ∀ w95 : World,
         (
          I89 k94 [Value.int IntKind.i64 n91, Value.bool b92, Value.int IntKind.i64 n93] w95) →
         Br (decide (n93 < (↑k16 : Int)))
          (
           ∃ I96 : List Value → World → Prop,
           (
            Br (decide (n93 < (↑k19 : Int)))
             (
              NilOk p18 fun a97 =>
              (
               (
                (0 : Int) ≤ n93) ∧
               n93 < (↑k19 : Int)) ∧
              ∃ n98 : Int,
              (
               w95.cell? (a97.add (n93.toNat * (1 : Nat))) = some (Value.int IntKind.u8 n98)) ∧
              LetI (IntKind.i64.wrap n98) fun n99 =>
              (
               (4 : Int) ≠ (0 : Int)) ∧
              LetI (n99.tmod (4 : Int)) fun n100 =>
              LetI (IntKind.i64.wrap (n91 + n100)) fun n101 =>
              I96 [Value.int IntKind.i64 n101] w95)
             (
              I96 [Value.int IntKind.i64 n91] w95)) ∧
           ∀ n102 : Int,
           ∀ w103 : World,
           (
            I96 [Value.int IntKind.i64 n102] w103) →
           NilOk p15 fun a104 =>
           (
            (
             (0 : Int) ≤ n93) ∧
            n93 < (↑k16 : Int)) ∧
           ∃ n105 : Int,
           (
            w103.cell? ((a104.add (n93.toNat * (33 : Nat))).add (1 : Nat)) = some (Value.int IntKind.u8 n105)) ∧
           LetI (IntKind.i64.wrap n105) fun n106 =>
           ∃ n107 : Int,
           (
            w103.cell? { block := b21, off := (0 : Nat) } = some (Value.int IntKind.i64 n107)) ∧
           (
            n107 ≠ (0 : Int)) ∧
           LetI (n106.tmod n107) fun n108 =>
           ∃ I109 : List Value → World → Prop,
           (
            NilOk p15 fun a110 =>
            (
             (
              (0 : Int) ≤ n93) ∧
             n93 < (↑k16 : Int)) ∧
            ∃ n111 : Int,
            (
             w103.cell? (a110.add (n93.toNat * (33 : Nat))) = some (Value.int IntKind.u8 n111)) ∧
            (
             (4 : Int) ≠ (0 : Int)) ∧
            LetI (n111.tmod (4 : Int)) fun n112 =>
            Br (n112 == (0 : Int))
             (
              Br (n112 == (0 : Int))
               (
                Ca Try.prog (28 : Nat) #[Value.pointer p85] w103 fun e113 w114 =>
                ∃ n115 : Int,
                ∃ p116 : Option Addr,
                ∃ k117 : Nat,
                ∃ k118 : Nat,
                ∃ n119 : Int,
                (
                 e113 = Ending.returned (Value.agg #[Value.int IntKind.i64 n115, Value.slice p116 k117 k118, Value.int IntKind.i64 n119])) ∧
                Ca Try.prog (27 : Nat) #[Value.pointer p85, Value.int IntKind.i64 n108, Value.agg #[Value.int IntKind.i64 (11 : Int), Value.int IntKind.i64 n115, Value.int IntKind.i64 (0 : Int), Value.int IntKind.i64 (0 : Int), Value.int IntKind.i64 (0 : Int), Value.int IntKind.i64 (0 : Int), Value.int IntKind.i64 (0 : Int), Value.int IntKind.i64 (0 : Int), Value.string { data := #[] }, Value.string { data := #[] }, Value.int IntKind.i64 (0 : Int), Value.int IntKind.i64 (0 : Int), Value.string { data := #[] }, Value.int IntKind.i64 (0 : Int), Value.int IntKind.i64 (0 : Int), Value.int IntKind.i64 (0 : Int), Value.int IntKind.i64 (0 : Int), Value.int IntKind.i64 (0 : Int), Value.int IntKind.i64 (0 : Int), Value.int IntKind.i64 (0 : Int), Value.string { data := #[] }, Value.string { data := #[] }, Value.int IntKind.i64 (0 : Int), Value.int IntKind.i64 (0 : Int), Value.slice none (0 : Nat) (0 : Nat), Value.int IntKind.i64 (0 : Int), Value.int IntKind.i64 (1 : Int), Value.int IntKind.i64 (0 : Int), Value.int IntKind.i64 (0 : Int)], Value.int IntKind.i64 n102] w114 fun e120 w121 =>
                ∃ p122 : Option Addr,
                ∃ k123 : Nat,
                ∃ k124 : Nat,
                (
                 e120 = Ending.returned (Value.slice p122 k123 k124)) ∧
                (
                 (
                  (0 : Int) ≤ n108) ∧
                 n108 < (↑(6 : Nat) : Int)) ∧
                (
                 Wr w121 ((Addr.mk b87 (0 : Nat) none).add (n108.toNat * (1 : Nat)))) ∧
                LetW (w121.setCell ((Addr.mk b87 (0 : Nat) none).add (n108.toNat * (1 : Nat))) (Value.int IntKind.i64 n102)) fun w125 =>
                I109 [] w125)
               (
                Br (n112 == (2 : Int))
                 (
                  Ca Try.prog (29 : Nat) #[Value.pointer p85, Value.int IntKind.i64 n108, Value.int IntKind.i64 n102] w103 fun e126 w127 =>
                  ∃ p128 : Option Addr,
                  ∃ k129 : Nat,
                  ∃ k130 : Nat,
                  ∃ n131 : Int,
                  (
                   e126 = Ending.returned (Value.tuple #[Value.slice p128 k129 k130, Value.int IntKind.i64 n131])) ∧
                  Br (n131 == (0 : Int))
                   (
                    (
                     (
                      (0 : Int) ≤ n108) ∧
                     n108 < (↑(6 : Nat) : Int)) ∧
                    (
                     Wr w127 ((Addr.mk b87 (0 : Nat) none).add (n108.toNat * (1 : Nat)))) ∧
                    LetW (w127.setCell ((Addr.mk b87 (0 : Nat) none).add (n108.toNat * (1 : Nat))) (Value.int IntKind.i64 n102)) fun w132 =>
                    I109 [] w132)
                   (
                    I109 [] w127))
                 (
                  Ca Try.prog (30 : Nat) #[Value.pointer p85, Value.int IntKind.i64 n108] w103 fun e133 w134 =>
                  ∃ p135 : Option Addr,
                  ∃ k136 : Nat,
                  ∃ k137 : Nat,
                  ∃ n138 : Int,
                  (
                   e133 = Ending.returned (Value.tuple #[Value.slice p135 k136 k137, Value.int IntKind.i64 n138])) ∧
                  I109 [] w134)))
             (
              Br (n112 == (1 : Int))
               (
                Ca Try.prog (28 : Nat) #[Value.pointer p85] w103 fun e139 w140 =>
                ∃ n141 : Int,
                ∃ p142 : Option Addr,
                ∃ k143 : Nat,
                ∃ k144 : Nat,
                ∃ n145 : Int,
                (
                 e139 = Ending.returned (Value.agg #[Value.int IntKind.i64 n141, Value.slice p142 k143 k144, Value.int IntKind.i64 n145])) ∧
                Ca Try.prog (27 : Nat) #[Value.pointer p85, Value.int IntKind.i64 n108, Value.agg #[Value.int IntKind.i64 (11 : Int), Value.int IntKind.i64 n141, Value.int IntKind.i64 (0 : Int), Value.int IntKind.i64 (0 : Int), Value.int IntKind.i64 (0 : Int), Value.int IntKind.i64 (0 : Int), Value.int IntKind.i64 (0 : Int), Value.int IntKind.i64 (0 : Int), Value.string { data := #[] }, Value.string { data := #[] }, Value.int IntKind.i64 (0 : Int), Value.int IntKind.i64 (0 : Int), Value.string { data := #[] }, Value.int IntKind.i64 (0 : Int), Value.int IntKind.i64 (0 : Int), Value.int IntKind.i64 (0 : Int), Value.int IntKind.i64 (0 : Int), Value.int IntKind.i64 (0 : Int), Value.int IntKind.i64 (0 : Int), Value.int IntKind.i64 (0 : Int), Value.string { data := #[] }, Value.string { data := #[] }, Value.int IntKind.i64 (0 : Int), Value.int IntKind.i64 (0 : Int), Value.slice none (0 : Nat) (0 : Nat), Value.int IntKind.i64 (0 : Int), Value.int IntKind.i64 (1 : Int), Value.int IntKind.i64 (0 : Int), Value.int IntKind.i64 (0 : Int)], Value.int IntKind.i64 n102] w140 fun e146 w147 =>
                ∃ p148 : Option Addr,
                ∃ k149 : Nat,
                ∃ k150 : Nat,
                (
                 e146 = Ending.returned (Value.slice p148 k149 k150)) ∧
                (
                 (
                  (0 : Int) ≤ n108) ∧
                 n108 < (↑(6 : Nat) : Int)) ∧
                (
                 Wr w147 ((Addr.mk b87 (0 : Nat) none).add (n108.toNat * (1 : Nat)))) ∧
                LetW (w147.setCell ((Addr.mk b87 (0 : Nat) none).add (n108.toNat * (1 : Nat))) (Value.int IntKind.i64 n102)) fun w151 =>
                I109 [] w151)
               (
                Br (n112 == (2 : Int))
                 (
                  Ca Try.prog (29 : Nat) #[Value.pointer p85, Value.int IntKind.i64 n108, Value.int IntKind.i64 n102] w103 fun e152 w153 =>
                  ∃ p154 : Option Addr,
                  ∃ k155 : Nat,
                  ∃ k156 : Nat,
                  ∃ n157 : Int,
                  (
                   e152 = Ending.returned (Value.tuple #[Value.slice p154 k155 k156, Value.int IntKind.i64 n157])) ∧
                  Br (n157 == (0 : Int))
                   (
                    (
                     (
                      (0 : Int) ≤ n108) ∧
                     n108 < (↑(6 : Nat) : Int)) ∧
                    (
                     Wr w153 ((Addr.mk b87 (0 : Nat) none).add (n108.toNat * (1 : Nat)))) ∧
                    LetW (w153.setCell ((Addr.mk b87 (0 : Nat) none).add (n108.toNat * (1 : Nat))) (Value.int IntKind.i64 n102)) fun w158 =>
                    I109 [] w158)
                   (
                    I109 [] w153))
                 (
                  Ca Try.prog (30 : Nat) #[Value.pointer p85, Value.int IntKind.i64 n108] w103 fun e159 w160 =>
                  ∃ p161 : Option Addr,
                  ∃ k162 : Nat,
                  ∃ k163 : Nat,
                  ∃ n164 : Int,
                  (
                   e159 = Ending.returned (Value.tuple #[Value.slice p161 k162 k163, Value.int IntKind.i64 n164])) ∧
                  I109 [] w160)))) ∧
           ∀ w165 : World,
           (
            I109 [] w165) →
           Ca Try.prog (28 : Nat) #[Value.pointer p85] w165 fun e166 w167 =>
           ∃ n168 : Int,
           ∃ p169 : Option Addr,
           ∃ k170 : Nat,
           ∃ k171 : Nat,
           ∃ n172 : Int,
           (
            e166 = Ending.returned (Value.agg #[Value.int IntKind.i64 n168, Value.slice p169 k170 k171, Value.int IntKind.i64 n172])) ∧
           LetA (Obj.cells #[Value.int IntKind.i64 (0 : Int), Value.slice none (0 : Nat) (0 : Nat), Value.int IntKind.i64 (0 : Int)] (32 : Nat)) w167 fun b173 w174 =>
           (
            WrRow w174 { block := b173, off := (0 : Nat) } (0 : Nat) [Value.int IntKind.i64 n168, Value.slice p169 k170 k171, Value.int IntKind.i64 n172]) ∧
           LetW (setRow w174 { block := b173, off := (0 : Nat) } (0 : Nat) [Value.int IntKind.i64 n168, Value.slice p169 k170 k171, Value.int IntKind.i64 n172]) fun w175 =>
           Ca Try.prog (31 : Nat) #[Value.pointer p85, Value.int IntKind.i64 n102] w175 fun e176 w177 =>
           ∃ p178 : Option Addr,
           ∃ k179 : Nat,
           ∃ k180 : Nat,
           (
            e176 = Ending.returned (Value.slice p178 k179 k180)) ∧
           Ca Try.prog (28 : Nat) #[Value.pointer p85] w177 fun e181 w182 =>
           ∃ n183 : Int,
           ∃ p184 : Option Addr,
           ∃ k185 : Nat,
           ∃ k186 : Nat,
           ∃ n187 : Int,
           (
            e181 = Ending.returned (Value.agg #[Value.int IntKind.i64 n183, Value.slice p184 k185 k186, Value.int IntKind.i64 n187])) ∧
           LetA (Obj.cells #[Value.int IntKind.i64 (0 : Int), Value.slice none (0 : Nat) (0 : Nat), Value.int IntKind.i64 (0 : Int)] (32 : Nat)) w182 fun b188 w189 =>
           (
            WrRow w189 { block := b188, off := (0 : Nat) } (0 : Nat) [Value.int IntKind.i64 n183, Value.slice p184 k185 k186, Value.int IntKind.i64 n187]) ∧
           LetW (setRow w189 { block := b188, off := (0 : Nat) } (0 : Nat) [Value.int IntKind.i64 n183, Value.slice p184 k185 k186, Value.int IntKind.i64 n187]) fun w190 =>
           ∃ I191 : Nat → List Value → World → Prop,
           (
            ∃ k192 : Nat,
            I191 k192 [Value.bool b92, Value.int IntKind.i64 (0 : Int)] w190) ∧
           ∀ b193 : Bool,
           ∀ n194 : Int,
           ∀ k195 : Nat,
           ∀ w196 : World,
           (
            I191 k195 [Value.bool b193, Value.int IntKind.i64 n194] w196) →
           ∃ p197 : Option Addr,
           ∃ k198 : Nat,
           ∃ k199 : Nat,
           (
            w196.cell? { block := b173, off := (1 : Nat) } = some (Value.slice p197 k198 k199)) ∧
           Br (decide (n194 < (↑k198 : Int)))
            (
             ∃ p200 : Option Addr,
             ∃ k201 : Nat,
             ∃ k202 : Nat,
             (
              w196.cell? { block := b173, off := (1 : Nat) } = some (Value.slice p200 k201 k202)) ∧
             NilOk p200 fun a203 =>
             (
              (
               (0 : Int) ≤ n194) ∧
              n194 < (↑k201 : Int)) ∧
             ∃ n204 : Int,
             (
              w196.cell? (a203.add (n194.toNat * (2 : Nat))) = some (Value.int IntKind.i64 n204)) ∧
             ∃ n205 : Int,
             ∃ p206 : Option Addr,
             ∃ k207 : Nat,
             ∃ k208 : Nat,
             ∃ n209 : Int,
             (
              Row w196 { block := b188, off := (0 : Nat) } (0 : Nat) [Value.int IntKind.i64 n205, Value.slice p206 k207 k208, Value.int IntKind.i64 n209]) ∧
             Ca Try.prog (32 : Nat) #[Value.agg #[Value.int IntKind.i64 n205, Value.slice p206 k207 k208, Value.int IntKind.i64 n209], Value.int IntKind.i64 n204] w196 fun e210 w211 =>
             ∃ n212 : Int,
             ∃ b213 : Bool,
             (
              e210 = Ending.returned (Value.tuple #[Value.int IntKind.i64 n212, Value.bool b213])) ∧
             Br (decide (n204 < (0 : Int)))
              (
               R (Ending.returned (Value.bool false)) w211)
              (
               Br (decide (n204 ≥ (6 : Int)))
                (
                 R (Ending.returned (Value.bool false)) w211)
                (
                 Br (!b213)
                  (
                   (
                    (
                     (0 : Int) ≤ n204) ∧
                    n204 < (↑(6 : Nat) : Int)) ∧
                   ∃ n214 : Int,
                   (
                    w211.cell? ((Addr.mk b87 (0 : Nat) none).add (n204.toNat * (1 : Nat))) = some (Value.int IntKind.i64 n214)) ∧
                   LetI (IntKind.i64.wrap (n102 - n214)) fun n215 =>
                   ∃ n216 : Int,
                   (
                    w211.cell? { block := b21, off := (8 : Nat) } = some (Value.int IntKind.i64 n216)) ∧
                   Br (decide (n215 ≤ n216))
                    (
                     R (Ending.returned (Value.bool false)) w211)
                    (
                     ∃ I217 : Nat → List Value → World → Prop,
                     (
                      ∃ k218 : Nat,
                      I217 k218 [Value.bool false, Value.int IntKind.i64 (0 : Int)] w211) ∧
                     ∀ b219 : Bool,
                     ∀ n220 : Int,
                     ∀ k221 : Nat,
                     ∀ w222 : World,
                     (
                      I217 k221 [Value.bool b219, Value.int IntKind.i64 n220] w222) →
                     ∃ p223 : Option Addr,
                     ∃ k224 : Nat,
                     ∃ k225 : Nat,
                     (
                      w222.cell? { block := b188, off := (1 : Nat) } = some (Value.slice p223 k224 k225)) ∧
                     Br (decide (n220 < (↑k224 : Int)))
                      (
                       Br (b219)
                        (
                         LetI (IntKind.i64.wrap (n220 + (1 : Int))) fun n226 =>
                         ∃ k227 : Nat,
                         (
                          k227 < k221) ∧
                         I217 k227 [Value.bool true, Value.int IntKind.i64 n226] w222)
                        (
                         ∃ p228 : Option Addr,
                         ∃ k229 : Nat,
                         ∃ k230 : Nat,
                         (
                          w222.cell? { block := b188, off := (1 : Nat) } = some (Value.slice p228 k229 k230)) ∧
                         NilOk p228 fun a231 =>
                         (
                          (
                           (0 : Int) ≤ n220) ∧
                          n220 < (↑k229 : Int)) ∧
                         ∃ n232 : Int,
                         (
                          w222.cell? (a231.add (n220.toNat * (2 : Nat))) = some (Value.int IntKind.i64 n232)) ∧
                         Br (n232 != n204)
                          (
                           ∃ p233 : Option Addr,
                           ∃ k234 : Nat,
                           ∃ k235 : Nat,
                           (
                            w222.cell? { block := b188, off := (1 : Nat) } = some (Value.slice p233 k234 k235)) ∧
                           NilOk p233 fun a236 =>
                           (
                            (
                             (0 : Int) ≤ n220) ∧
                            n220 < (↑k234 : Int)) ∧
                           ∃ n237 : Int,
                           (
                            w222.cell? (a236.add (n220.toNat * (2 : Nat))) = some (Value.int IntKind.i64 n237)) ∧
                           Ca Try.prog (33 : Nat) #[Value.pointer p85, Value.int IntKind.i64 n237] w222 fun e238 w239 =>
                           ∃ b240 : Bool,
                           (
                            e238 = Ending.returned (Value.bool b240)) ∧
                           LetI (IntKind.i64.wrap (n220 + (1 : Int))) fun n241 =>
                           ∃ k242 : Nat,
                           (
                            k242 < k221) ∧
                           I217 k242 [Value.bool b240, Value.int IntKind.i64 n241] w239)
                          (
                           LetI (IntKind.i64.wrap (n220 + (1 : Int))) fun n243 =>
                           ∃ k244 : Nat,
                           (
                            k244 < k221) ∧
                           I217 k244 [Value.bool false, Value.int IntKind.i64 n243] w222)))
                      (
                       Br (b213)
                        (
                         (
                          (
                           (0 : Int) ≤ n204) ∧
                          n204 < (↑(6 : Nat) : Int)) ∧
                         ∃ n245 : Int,
                         (
                          w222.cell? ((Addr.mk b87 (0 : Nat) none).add (n204.toNat * (1 : Nat))) = some (Value.int IntKind.i64 n245)) ∧
                         LetI (IntKind.i64.wrap (n102 - n245)) fun n246 =>
                         ∃ n247 : Int,
                         (
                          w222.cell? { block := b21, off := (8 : Nat) } = some (Value.int IntKind.i64 n247)) ∧
                         Br (decide (n246 > n247))
                          (
                           Br (b219)
                            (
                             R (Ending.returned (Value.bool false)) w222)
                            (
                             LetI (IntKind.i64.wrap (n194 + (1 : Int))) fun n248 =>
                             ∃ k249 : Nat,
                             (
                              k249 < k195) ∧
                             I191 k249 [Value.bool b193, Value.int IntKind.i64 n248] w222))
                          (
                           LetI (IntKind.i64.wrap (n194 + (1 : Int))) fun n250 =>
                           ∃ k251 : Nat,
                           (
                            k251 < k195) ∧
                           I191 k251 [Value.bool b193, Value.int IntKind.i64 n250] w222))
                        (
                         LetI (IntKind.i64.wrap (n194 + (1 : Int))) fun n252 =>
                         ∃ k253 : Nat,
                         (
                          k253 < k195) ∧
                         I191 k253 [Value.bool b193, Value.int IntKind.i64 n252] w222))))
                  (
                   ∃ I254 : Nat → List Value → World → Prop,
                   (
                    ∃ k255 : Nat,
                    I254 k255 [Value.bool false, Value.int IntKind.i64 (0 : Int)] w211) ∧
                   ∀ b256 : Bool,
                   ∀ n257 : Int,
                   ∀ k258 : Nat,
                   ∀ w259 : World,
                   (
                    I254 k258 [Value.bool b256, Value.int IntKind.i64 n257] w259) →
                   ∃ p260 : Option Addr,
                   ∃ k261 : Nat,
                   ∃ k262 : Nat,
                   (
                    w259.cell? { block := b188, off := (1 : Nat) } = some (Value.slice p260 k261 k262)) ∧
                   Br (decide (n257 < (↑k261 : Int)))
                    (
                     Br (b256)
                      (
                       LetI (IntKind.i64.wrap (n257 + (1 : Int))) fun n263 =>
                       ∃ k264 : Nat,
                       (
                        k264 < k258) ∧
                       I254 k264 [Value.bool true, Value.int IntKind.i64 n263] w259)
                      (
                       ∃ p265 : Option Addr,
                       ∃ k266 : Nat,
                       ∃ k267 : Nat,
                       (
                        w259.cell? { block := b188, off := (1 : Nat) } = some (Value.slice p265 k266 k267)) ∧
                       NilOk p265 fun a268 =>
                       (
                        (
                         (0 : Int) ≤ n257) ∧
                        n257 < (↑k266 : Int)) ∧
                       ∃ n269 : Int,
                       (
                        w259.cell? (a268.add (n257.toNat * (2 : Nat))) = some (Value.int IntKind.i64 n269)) ∧
                       Br (n269 != n204)
                        (
                         ∃ p270 : Option Addr,
                         ∃ k271 : Nat,
                         ∃ k272 : Nat,
                         (
                          w259.cell? { block := b188, off := (1 : Nat) } = some (Value.slice p270 k271 k272)) ∧
                         NilOk p270 fun a273 =>
                         (
                          (
                           (0 : Int) ≤ n257) ∧
                          n257 < (↑k271 : Int)) ∧
                         ∃ n274 : Int,
                         (
                          w259.cell? (a273.add (n257.toNat * (2 : Nat))) = some (Value.int IntKind.i64 n274)) ∧
                         Ca Try.prog (33 : Nat) #[Value.pointer p85, Value.int IntKind.i64 n274] w259 fun e275 w276 =>
                         ∃ b277 : Bool,
                         (
                          e275 = Ending.returned (Value.bool b277)) ∧
                         LetI (IntKind.i64.wrap (n257 + (1 : Int))) fun n278 =>
                         ∃ k279 : Nat,
                         (
                          k279 < k258) ∧
                         I254 k279 [Value.bool b277, Value.int IntKind.i64 n278] w276)
                        (
                         LetI (IntKind.i64.wrap (n257 + (1 : Int))) fun n280 =>
                         ∃ k281 : Nat,
                         (
                          k281 < k258) ∧
                         I254 k281 [Value.bool false, Value.int IntKind.i64 n280] w259)))
                    (
                     Br (b213)
                      (
                       (
                        (
                         (0 : Int) ≤ n204) ∧
                        n204 < (↑(6 : Nat) : Int)) ∧
                       ∃ n282 : Int,
                       (
                        w259.cell? ((Addr.mk b87 (0 : Nat) none).add (n204.toNat * (1 : Nat))) = some (Value.int IntKind.i64 n282)) ∧
                       LetI (IntKind.i64.wrap (n102 - n282)) fun n283 =>
                       ∃ n284 : Int,
                       (
                        w259.cell? { block := b21, off := (8 : Nat) } = some (Value.int IntKind.i64 n284)) ∧
                       Br (decide (n283 > n284))
                        (
                         Br (b256)
                          (
                           R (Ending.returned (Value.bool false)) w259)
                          (
                           LetI (IntKind.i64.wrap (n194 + (1 : Int))) fun n285 =>
                           ∃ k286 : Nat,
                           (
                            k286 < k195) ∧
                           I191 k286 [Value.bool b193, Value.int IntKind.i64 n285] w259))
                        (
                         LetI (IntKind.i64.wrap (n194 + (1 : Int))) fun n287 =>
                         ∃ k288 : Nat,
                         (
                          k288 < k195) ∧
                         I191 k288 [Value.bool b193, Value.int IntKind.i64 n287] w259))
                      (
                       LetI (IntKind.i64.wrap (n194 + (1 : Int))) fun n289 =>
                       ∃ k290 : Nat,
                       (
                        k290 < k195) ∧
                       I191 k290 [Value.bool b193, Value.int IntKind.i64 n289] w259))))))
            (
             LetI (IntKind.i64.wrap (n93 + (1 : Int))) fun n291 =>
             ∃ k292 : Nat,
             (
              k292 < k94) ∧
             I89 k292 [Value.int IntKind.i64 n102, Value.bool b193, Value.int IntKind.i64 n291] w196))
          (
           Ca Try.prog (25 : Nat) #[] w95 fun e293 w294 =>
           ∃ b295 : Bool,
           (
            e293 = Ending.returned (Value.bool b295)) ∧
           R (Ending.returned (Value.bool b295)) w294)))))
theorem lawMKeeps_ok (n1 : Int) (n2 : Int) (n3 : Int) (p4 : Option Addr) (k5 : Nat) (k6 : Nat) (n7 : Int) (n8 : Int) (n9 : Int) (n10 : Int) (n11 : Int) (n12 : Int) (n13 : Int) (n14 : Int) (p15 : Option Addr) (k16 : Nat) (k17 : Nat) (p18 : Option Addr) (k19 : Nat) (k20 : Nat) (w : World) (R : Ending → World → Prop) (h : lawMKeeps n1 n2 n3 p4 k5 k6 n7 n8 n9 n10 n11 n12 n13 n14 p15 k16 k17 p18 k19 k20 w R) : Ca Try.prog 5 #[Value.agg #[Value.int IntKind.i64 n1, Value.int IntKind.i64 n2, Value.int IntKind.i64 n3, Value.slice p4 k5 k6, Value.int IntKind.i64 n7, Value.int IntKind.i64 n8, Value.int IntKind.i64 n9, Value.int IntKind.i64 n10, Value.int IntKind.i64 n11, Value.int IntKind.i64 n12, Value.int IntKind.i64 n13, Value.int IntKind.i64 n14], Value.slice p15 k16 k17, Value.slice p18 k19 k20] w R :=
  Ca.of_fvc (c := bodyOf Try.f5) (by kernel_rfl) Try.func5 (by kernel_rfl) [14, 25] (Eq.mp (by kernel_rfl) h)

end Go.Proofs.Ytljipmhkpnigkaa
