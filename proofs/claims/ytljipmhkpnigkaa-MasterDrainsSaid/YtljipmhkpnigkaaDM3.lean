/- The verification conditions of this seat's functions, printed by a program; the kernel holds each against the loaded code. -/
import Derived.Test.YtljipmhkpnigkaaProg
import Derived.KernelRfl
import Derived.Test.YtljipmhkpnigkaaV5
set_option maxRecDepth 100000
namespace Go.Proofs.Ytljipmhkpnigkaa
open Go Go.Vc Go.Proofs
def lawMDrains (n1 : Int) (n2 : Int) (n3 : Int) (p4 : Option Addr) (k5 : Nat) (k6 : Nat) (n7 : Int) (n8 : Int) (n9 : Int) (n10 : Int) (n11 : Int) (n12 : Int) (n13 : Int) (n14 : Int) (p15 : Option Addr) (k16 : Nat) (k17 : Nat) (w : World) (R : Ending → World → Prop) : Prop :=
 LetA (Obj.cells #[Value.int IntKind.i64 n1, Value.int IntKind.i64 n2, Value.int IntKind.i64 n3, Value.slice p4 k5 k6, Value.int IntKind.i64 n7, Value.int IntKind.i64 n8, Value.int IntKind.i64 n9, Value.int IntKind.i64 n10, Value.int IntKind.i64 n11, Value.int IntKind.i64 n12, Value.int IntKind.i64 n13, Value.int IntKind.i64 n14] (24 : Nat)) w fun b18 w19 =>
 ∃ p20 : Option Addr,
 ∃ k21 : Nat,
 ∃ k22 : Nat,
 (
  w19.cell? { block := b18, off := (3 : Nat) } = some (Value.slice p20 k21 k22)) ∧
 Br (decide ((↑k21 : Int) > (20 : Int)))
  (
   Ca Try.prog (25 : Nat) #[] w19 fun e23 w24 =>
   ∃ b25 : Bool,
   (
    e23 = Ending.returned (Value.bool b25)) ∧
   R (Ending.returned (Value.bool b25)) w24)
  (
   Ca Try.prog (24 : Nat) #[Value.slice p15 k16 k17, Value.int IntKind.i64 (40 : Int)] w19 fun e26 w27 =>
   ∃ b28 : Bool,
   (
    e26 = Ending.returned (Value.bool b28)) ∧
   Br (b28)
    (
     Ca Try.prog (25 : Nat) #[] w27 fun e29 w30 =>
     ∃ b31 : Bool,
     (
      e29 = Ending.returned (Value.bool b31)) ∧
     R (Ending.returned (Value.bool b31)) w30)
    (
     ∃ n32 : Int,
     ∃ n33 : Int,
     ∃ n34 : Int,
     ∃ p35 : Option Addr,
     ∃ k36 : Nat,
     ∃ k37 : Nat,
     ∃ n38 : Int,
     ∃ n39 : Int,
     ∃ n40 : Int,
     ∃ n41 : Int,
     ∃ n42 : Int,
     ∃ n43 : Int,
     ∃ n44 : Int,
     ∃ n45 : Int,
     (
      Row w27 { block := b18, off := (0 : Nat) } (0 : Nat) [Value.int IntKind.i64 n32, Value.int IntKind.i64 n33, Value.int IntKind.i64 n34, Value.slice p35 k36 k37, Value.int IntKind.i64 n38, Value.int IntKind.i64 n39, Value.int IntKind.i64 n40, Value.int IntKind.i64 n41, Value.int IntKind.i64 n42, Value.int IntKind.i64 n43, Value.int IntKind.i64 n44, Value.int IntKind.i64 n45]) ∧
     Ca Try.prog (14 : Nat) #[Value.agg #[Value.int IntKind.i64 n32, Value.int IntKind.i64 n33, Value.int IntKind.i64 n34, Value.slice p35 k36 k37, Value.int IntKind.i64 n38, Value.int IntKind.i64 n39, Value.int IntKind.i64 n40, Value.int IntKind.i64 n41, Value.int IntKind.i64 n42, Value.int IntKind.i64 n43, Value.int IntKind.i64 n44, Value.int IntKind.i64 n45]] w27 fun e46 w47 =>
     ∃ n48 : Int,
     ∃ n49 : Int,
     ∃ n50 : Int,
     ∃ p51 : Option Addr,
     ∃ k52 : Nat,
     ∃ k53 : Nat,
     ∃ n54 : Int,
     ∃ n55 : Int,
     ∃ n56 : Int,
     ∃ n57 : Int,
     ∃ n58 : Int,
     ∃ n59 : Int,
     ∃ n60 : Int,
     ∃ n61 : Int,
     (
      e46 = Ending.returned (Value.agg #[Value.int IntKind.i64 n48, Value.int IntKind.i64 n49, Value.int IntKind.i64 n50, Value.slice p51 k52 k53, Value.int IntKind.i64 n54, Value.int IntKind.i64 n55, Value.int IntKind.i64 n56, Value.int IntKind.i64 n57, Value.int IntKind.i64 n58, Value.int IntKind.i64 n59, Value.int IntKind.i64 n60, Value.int IntKind.i64 n61])) ∧
     (
      WrRow w47 { block := b18, off := (0 : Nat) } (0 : Nat) [Value.int IntKind.i64 n48, Value.int IntKind.i64 n49, Value.int IntKind.i64 n50, Value.slice p51 k52 k53, Value.int IntKind.i64 n54, Value.int IntKind.i64 n55, Value.int IntKind.i64 n56, Value.int IntKind.i64 n57, Value.int IntKind.i64 n58, Value.int IntKind.i64 n59, Value.int IntKind.i64 n60, Value.int IntKind.i64 n61]) ∧
     LetW (setRow w47 { block := b18, off := (0 : Nat) } (0 : Nat) [Value.int IntKind.i64 n48, Value.int IntKind.i64 n49, Value.int IntKind.i64 n50, Value.slice p51 k52 k53, Value.int IntKind.i64 n54, Value.int IntKind.i64 n55, Value.int IntKind.i64 n56, Value.int IntKind.i64 n57, Value.int IntKind.i64 n58, Value.int IntKind.i64 n59, Value.int IntKind.i64 n60, Value.int IntKind.i64 n61]) fun w62 =>
     ∃ n63 : Int,
     ∃ n64 : Int,
     ∃ n65 : Int,
     ∃ p66 : Option Addr,
     ∃ k67 : Nat,
     ∃ k68 : Nat,
     ∃ n69 : Int,
     ∃ n70 : Int,
     ∃ n71 : Int,
     ∃ n72 : Int,
     ∃ n73 : Int,
     ∃ n74 : Int,
     ∃ n75 : Int,
     ∃ n76 : Int,
     (
      Row w62 { block := b18, off := (0 : Nat) } (0 : Nat) [Value.int IntKind.i64 n63, Value.int IntKind.i64 n64, Value.int IntKind.i64 n65, Value.slice p66 k67 k68, Value.int IntKind.i64 n69, Value.int IntKind.i64 n70, Value.int IntKind.i64 n71, Value.int IntKind.i64 n72, Value.int IntKind.i64 n73, Value.int IntKind.i64 n74, Value.int IntKind.i64 n75, Value.int IntKind.i64 n76]) ∧
     Ca Try.prog (26 : Nat) #[Value.agg #[Value.int IntKind.i64 n63, Value.int IntKind.i64 n64, Value.int IntKind.i64 n65, Value.slice p66 k67 k68, Value.int IntKind.i64 n69, Value.int IntKind.i64 n70, Value.int IntKind.i64 n71, Value.int IntKind.i64 n72, Value.int IntKind.i64 n73, Value.int IntKind.i64 n74, Value.int IntKind.i64 n75, Value.int IntKind.i64 n76]] w62 fun e77 w78 =>
     ∃ p79 : Option Addr,
     ∃ n80 : Int,
     (
      e77 = Ending.returned (Value.tuple #[Value.pointer p79, Value.int IntKind.i64 n80])) ∧
     Br (n80 != (0 : Int))
      (
       R (Ending.returned (Value.bool false)) w78)
      (
       ∃ I81 : Nat → List Value → World → Prop,
       (
        ∃ k82 : Nat,
        I81 k82 [Value.bool false, Value.int IntKind.i64 (0 : Int)] w78) ∧
       ∀ b83 : Bool,
       ∀ n84 : Int,
       ∀ k85 : Nat,
       ∀ w86 : World,
       (
        I81 k85 [Value.bool b83, Value.int IntKind.i64 n84] w86) →
       Br (decide (n84 < (↑k16 : Int)))
        (
         NilOk p15 fun a87 =>
         (
          (
           (0 : Int) ≤ n84) ∧
          n84 < (↑k16 : Int)) ∧
         ∃ n88 : Int,
         (
          w86.cell? ((a87.add (n84.toNat * (33 : Nat))).add (1 : Nat)) = some (Value.int IntKind.u8 n88)) ∧
         LetI (IntKind.i64.wrap n88) fun n89 =>
         ∃ n90 : Int,
         (
          w86.cell? { block := b18, off := (0 : Nat) } = some (Value.int IntKind.i64 n90)) ∧
         (
          n90 ≠ (0 : Int)) ∧
         LetI (n89.tmod n90) fun n91 =>
         NilOk p15 fun a92 =>
         (
          (
           (0 : Int) ≤ n84) ∧
          n84 < (↑k16 : Int)) ∧
         ∃ n93 : Int,
         (
          w86.cell? ((a92.add (n84.toNat * (33 : Nat))).add (2 : Nat)) = some (Value.int IntKind.u8 n93)) ∧
         LetI (IntKind.i64.wrap n93) fun n94 =>
         (
          (3 : Int) ≠ (0 : Int)) ∧
         LetI (n94.tmod (3 : Int)) fun n95 =>
         LetI (IntKind.i64.wrap (n95 - (1 : Int))) fun n96 =>
         ∃ I97 : List Value → World → Prop,
         (
          NilOk p15 fun a98 =>
          (
           (
            (0 : Int) ≤ n84) ∧
           n84 < (↑k16 : Int)) ∧
          ∃ n99 : Int,
          (
           w86.cell? (a98.add (n84.toNat * (33 : Nat))) = some (Value.int IntKind.u8 n99)) ∧
          (
           (5 : Int) ≠ (0 : Int)) ∧
          LetI (n99.tmod (5 : Int)) fun n100 =>
          Br (n100 == (0 : Int))
           (
            Ca Try.prog (29 : Nat) #[Value.pointer p79, Value.int IntKind.i64 n91, Value.int IntKind.i64 (0 : Int)] w86 fun e101 w102 =>
            ∃ p103 : Option Addr,
            ∃ k104 : Nat,
            ∃ k105 : Nat,
            ∃ n106 : Int,
            (
             e101 = Ending.returned (Value.tuple #[Value.slice p103 k104 k105, Value.int IntKind.i64 n106])) ∧
            I97 [] w102)
           (
            Br (n100 == (1 : Int))
             (
              Ca Try.prog (34 : Nat) #[Value.pointer p79, Value.int IntKind.i64 n91] w86 fun e107 w108 =>
              ∃ p109 : Option Addr,
              ∃ k110 : Nat,
              ∃ k111 : Nat,
              ∃ n112 : Int,
              (
               e107 = Ending.returned (Value.tuple #[Value.slice p109 k110 k111, Value.int IntKind.i64 n112])) ∧
              I97 [] w108)
             (
              Br (n100 == (2 : Int))
               (
                Ca Try.prog (28 : Nat) #[Value.pointer p79] w86 fun e113 w114 =>
                ∃ n115 : Int,
                ∃ p116 : Option Addr,
                ∃ k117 : Nat,
                ∃ k118 : Nat,
                ∃ n119 : Int,
                (
                 e113 = Ending.returned (Value.agg #[Value.int IntKind.i64 n115, Value.slice p116 k117 k118, Value.int IntKind.i64 n119])) ∧
                Ca Try.prog (27 : Nat) #[Value.pointer p79, Value.int IntKind.i64 n91, Value.agg #[Value.int IntKind.i64 (11 : Int), Value.int IntKind.i64 n115, Value.int IntKind.i64 (0 : Int), Value.int IntKind.i64 (0 : Int), Value.int IntKind.i64 (0 : Int), Value.int IntKind.i64 (0 : Int), Value.int IntKind.i64 (0 : Int), Value.int IntKind.i64 (0 : Int), Value.string { data := #[] }, Value.string { data := #[] }, Value.int IntKind.i64 (0 : Int), Value.int IntKind.i64 (0 : Int), Value.string { data := #[] }, Value.int IntKind.i64 (0 : Int), Value.int IntKind.i64 (0 : Int), Value.int IntKind.i64 (0 : Int), Value.int IntKind.i64 (0 : Int), Value.int IntKind.i64 (0 : Int), Value.int IntKind.i64 (0 : Int), Value.int IntKind.i64 (0 : Int), Value.string { data := #[] }, Value.string { data := #[] }, Value.int IntKind.i64 (0 : Int), Value.int IntKind.i64 (0 : Int), Value.slice none (0 : Nat) (0 : Nat), Value.int IntKind.i64 (0 : Int), Value.int IntKind.i64 (1 : Int), Value.int IntKind.i64 (0 : Int), Value.int IntKind.i64 (0 : Int)], Value.int IntKind.i64 (0 : Int)] w114 fun e120 w121 =>
                ∃ p122 : Option Addr,
                ∃ k123 : Nat,
                ∃ k124 : Nat,
                (
                 e120 = Ending.returned (Value.slice p122 k123 k124)) ∧
                I97 [] w121)
               (
                I97 [] w86)))) ∧
         ∀ w125 : World,
         (
          I97 [] w125) →
         Ca Try.prog (28 : Nat) #[Value.pointer p79] w125 fun e126 w127 =>
         ∃ n128 : Int,
         ∃ p129 : Option Addr,
         ∃ k130 : Nat,
         ∃ k131 : Nat,
         ∃ n132 : Int,
         (
          e126 = Ending.returned (Value.agg #[Value.int IntKind.i64 n128, Value.slice p129 k130 k131, Value.int IntKind.i64 n132])) ∧
         LetA (Obj.cells #[Value.int IntKind.i64 (0 : Int), Value.slice none (0 : Nat) (0 : Nat), Value.int IntKind.i64 (0 : Int)] (32 : Nat)) w127 fun b133 w134 =>
         (
          WrRow w134 { block := b133, off := (0 : Nat) } (0 : Nat) [Value.int IntKind.i64 n128, Value.slice p129 k130 k131, Value.int IntKind.i64 n132]) ∧
         LetW (setRow w134 { block := b133, off := (0 : Nat) } (0 : Nat) [Value.int IntKind.i64 n128, Value.slice p129 k130 k131, Value.int IntKind.i64 n132]) fun w135 =>
         ∃ I136 : Nat → List Value → World → Prop,
         (
          ∃ k137 : Nat,
          I136 k137 [Value.bool false, Value.int IntKind.i64 (0 : Int)] w135) ∧
         ∀ b138 : Bool,
         ∀ n139 : Int,
         ∀ k140 : Nat,
         ∀ w141 : World,
         (
          I136 k140 [Value.bool b138, Value.int IntKind.i64 n139] w141) →
         ∃ p142 : Option Addr,
         ∃ k143 : Nat,
         ∃ k144 : Nat,
         (
          w141.cell? { block := b133, off := (1 : Nat) } = some (Value.slice p142 k143 k144)) ∧
         Br (decide (n139 < (↑k143 : Int)))
          (
           Br (b138)
            (
             LetI (IntKind.i64.wrap (n139 + (1 : Int))) fun n145 =>
             ∃ k146 : Nat,
             (
              k146 < k140) ∧
             I136 k146 [Value.bool true, Value.int IntKind.i64 n145] w141)
            (
             ∃ p147 : Option Addr,
             ∃ k148 : Nat,
             ∃ k149 : Nat,
             (
              w141.cell? { block := b133, off := (1 : Nat) } = some (Value.slice p147 k148 k149)) ∧
             NilOk p147 fun a150 =>
             (
              (
               (0 : Int) ≤ n139) ∧
              n139 < (↑k148 : Int)) ∧
             ∃ n151 : Int,
             (
              w141.cell? (a150.add (n139.toNat * (2 : Nat))) = some (Value.int IntKind.i64 n151)) ∧
             Br (n151 != n91)
              (
               ∃ p152 : Option Addr,
               ∃ k153 : Nat,
               ∃ k154 : Nat,
               (
                w141.cell? { block := b133, off := (1 : Nat) } = some (Value.slice p152 k153 k154)) ∧
               NilOk p152 fun a155 =>
               (
                (
                 (0 : Int) ≤ n139) ∧
                n139 < (↑k153 : Int)) ∧
               ∃ n156 : Int,
               (
                w141.cell? (a155.add (n139.toNat * (2 : Nat))) = some (Value.int IntKind.i64 n156)) ∧
               Ca Try.prog (33 : Nat) #[Value.pointer p79, Value.int IntKind.i64 n156] w141 fun e157 w158 =>
               ∃ b159 : Bool,
               (
                e157 = Ending.returned (Value.bool b159)) ∧
               LetI (IntKind.i64.wrap (n139 + (1 : Int))) fun n160 =>
               ∃ k161 : Nat,
               (
                k161 < k140) ∧
               I136 k161 [Value.bool b159, Value.int IntKind.i64 n160] w158)
              (
               LetI (IntKind.i64.wrap (n139 + (1 : Int))) fun n162 =>
               ∃ k163 : Nat,
               (
                k163 < k140) ∧
               I136 k163 [Value.bool false, Value.int IntKind.i64 n162] w141)))
          (
           ∃ n164 : Int,
           (
            w141.cell? { block := b133, off := (0 : Nat) } = some (Value.int IntKind.i64 n164)) ∧
           LetI (IntKind.i64.wrap (n164 + n96)) fun n165 =>
           Ca Try.prog (27 : Nat) #[Value.pointer p79, Value.int IntKind.i64 n91, Value.agg #[Value.int IntKind.i64 (12 : Int), Value.int IntKind.i64 n165, Value.int IntKind.i64 (0 : Int), Value.int IntKind.i64 (0 : Int), Value.int IntKind.i64 (0 : Int), Value.int IntKind.i64 (0 : Int), Value.int IntKind.i64 (0 : Int), Value.int IntKind.i64 (0 : Int), Value.string { data := #[] }, Value.string { data := #[] }, Value.int IntKind.i64 (0 : Int), Value.int IntKind.i64 (0 : Int), Value.string { data := #[] }, Value.int IntKind.i64 (0 : Int), Value.int IntKind.i64 (0 : Int), Value.int IntKind.i64 (0 : Int), Value.int IntKind.i64 (0 : Int), Value.int IntKind.i64 (0 : Int), Value.int IntKind.i64 (0 : Int), Value.int IntKind.i64 (0 : Int), Value.string { data := #[] }, Value.string { data := #[] }, Value.int IntKind.i64 (0 : Int), Value.int IntKind.i64 (0 : Int), Value.slice none (0 : Nat) (0 : Nat), Value.int IntKind.i64 (0 : Int), Value.int IntKind.i64 (0 : Int), Value.int IntKind.i64 (0 : Int), Value.int IntKind.i64 (0 : Int)], Value.int IntKind.i64 (0 : Int)] w141 fun e166 w167 =>
           ∃ p168 : Option Addr,
           ∃ k169 : Nat,
           ∃ k170 : Nat,
           (
            e166 = Ending.returned (Value.slice p168 k169 k170)) ∧
           Ca Try.prog (28 : Nat) #[Value.pointer p79] w167 fun e171 w172 =>
           ∃ n173 : Int,
           ∃ p174 : Option Addr,
           ∃ k175 : Nat,
           ∃ k176 : Nat,
           ∃ n177 : Int,
           (
            e171 = Ending.returned (Value.agg #[Value.int IntKind.i64 n173, Value.slice p174 k175 k176, Value.int IntKind.i64 n177])) ∧
           LetA (Obj.cells #[Value.int IntKind.i64 (0 : Int), Value.slice none (0 : Nat) (0 : Nat), Value.int IntKind.i64 (0 : Int)] (32 : Nat)) w172 fun b178 w179 =>
           (
            WrRow w179 { block := b178, off := (0 : Nat) } (0 : Nat) [Value.int IntKind.i64 n173, Value.slice p174 k175 k176, Value.int IntKind.i64 n177]) ∧
           LetW (setRow w179 { block := b178, off := (0 : Nat) } (0 : Nat) [Value.int IntKind.i64 n173, Value.slice p174 k175 k176, Value.int IntKind.i64 n177]) fun w180 =>
           Br (n96 == (0 : Int))
            (
             ∃ n181 : Int,
             (
              w180.cell? { block := b133, off := (2 : Nat) } = some (Value.int IntKind.i64 n181)) ∧
             Br (n181 == n91)
              (
               ∃ n182 : Int,
               ∃ p183 : Option Addr,
               ∃ k184 : Nat,
               ∃ k185 : Nat,
               ∃ n186 : Int,
               (
                Row w180 { block := b178, off := (0 : Nat) } (0 : Nat) [Value.int IntKind.i64 n182, Value.slice p183 k184 k185, Value.int IntKind.i64 n186]) ∧
               Ca Try.prog (32 : Nat) #[Value.agg #[Value.int IntKind.i64 n182, Value.slice p183 k184 k185, Value.int IntKind.i64 n186], Value.int IntKind.i64 n91] w180 fun e187 w188 =>
               ∃ n189 : Int,
               ∃ b190 : Bool,
               (
                e187 = Ending.returned (Value.tuple #[Value.int IntKind.i64 n189, Value.bool b190])) ∧
               ∃ n191 : Int,
               (
                w188.cell? { block := b178, off := (0 : Nat) } = some (Value.int IntKind.i64 n191)) ∧
               ∃ n192 : Int,
               (
                w188.cell? { block := b133, off := (0 : Nat) } = some (Value.int IntKind.i64 n192)) ∧
               LetI (IntKind.i64.wrap (n192 + (1 : Int))) fun n193 =>
               Br (!b138 == (n191 == n193))
                (
                 R (Ending.returned (Value.bool false)) w188)
                (
                 Br (!b138)
                  (
                   ∃ n194 : Int,
                   (
                    w188.cell? { block := b178, off := (0 : Nat) } = some (Value.int IntKind.i64 n194)) ∧
                   ∃ n195 : Int,
                   (
                    w188.cell? { block := b133, off := (0 : Nat) } = some (Value.int IntKind.i64 n195)) ∧
                   Br (n194 != n195)
                    (
                     R (Ending.returned (Value.bool false)) w188)
                    (
                     Br (b138)
                      (
                       Br (b190)
                        (
                         R (Ending.returned (Value.bool false)) w188)
                        (
                         ∃ n196 : Int,
                         (
                          w188.cell? { block := b178, off := (2 : Nat) } = some (Value.int IntKind.i64 n196)) ∧
                         Br (n196 != (-1 : Int))
                          (
                           R (Ending.returned (Value.bool false)) w188)
                          (
                           ∃ p197 : Option Addr,
                           ∃ k198 : Nat,
                           ∃ k199 : Nat,
                           (
                            w188.cell? { block := b178, off := (1 : Nat) } = some (Value.slice p197 k198 k199)) ∧
                           ∃ p200 : Option Addr,
                           ∃ k201 : Nat,
                           ∃ k202 : Nat,
                           (
                            w188.cell? { block := b133, off := (1 : Nat) } = some (Value.slice p200 k201 k202)) ∧
                           LetI (IntKind.i64.wrap ((↑k201 : Int) - (1 : Int))) fun n203 =>
                           Br ((↑k198 : Int) != n203)
                            (
                             R (Ending.returned (Value.bool false)) w188)
                            (
                             LetI (IntKind.i64.wrap (n84 + (1 : Int))) fun n204 =>
                             ∃ k205 : Nat,
                             (
                              k205 < k85) ∧
                             I81 k205 [Value.bool b83, Value.int IntKind.i64 n204] w188))))
                      (
                       LetI (IntKind.i64.wrap (n84 + (1 : Int))) fun n206 =>
                       ∃ k207 : Nat,
                       (
                        k207 < k85) ∧
                       I81 k207 [Value.bool b83, Value.int IntKind.i64 n206] w188)))
                  (
                   Br (b138)
                    (
                     Br (b190)
                      (
                       R (Ending.returned (Value.bool false)) w188)
                      (
                       ∃ n208 : Int,
                       (
                        w188.cell? { block := b178, off := (2 : Nat) } = some (Value.int IntKind.i64 n208)) ∧
                       Br (n208 != (-1 : Int))
                        (
                         R (Ending.returned (Value.bool false)) w188)
                        (
                         ∃ p209 : Option Addr,
                         ∃ k210 : Nat,
                         ∃ k211 : Nat,
                         (
                          w188.cell? { block := b178, off := (1 : Nat) } = some (Value.slice p209 k210 k211)) ∧
                         ∃ p212 : Option Addr,
                         ∃ k213 : Nat,
                         ∃ k214 : Nat,
                         (
                          w188.cell? { block := b133, off := (1 : Nat) } = some (Value.slice p212 k213 k214)) ∧
                         LetI (IntKind.i64.wrap ((↑k213 : Int) - (1 : Int))) fun n215 =>
                         Br ((↑k210 : Int) != n215)
                          (
                           R (Ending.returned (Value.bool false)) w188)
                          (
                           LetI (IntKind.i64.wrap (n84 + (1 : Int))) fun n216 =>
                           ∃ k217 : Nat,
                           (
                            k217 < k85) ∧
                           I81 k217 [Value.bool b83, Value.int IntKind.i64 n216] w188))))
                    (
                     LetI (IntKind.i64.wrap (n84 + (1 : Int))) fun n218 =>
                     ∃ k219 : Nat,
                     (
                      k219 < k85) ∧
                     I81 k219 [Value.bool b83, Value.int IntKind.i64 n218] w188))))
              (
               ∃ n220 : Int,
               ∃ p221 : Option Addr,
               ∃ k222 : Nat,
               ∃ k223 : Nat,
               ∃ n224 : Int,
               (
                Row w180 { block := b178, off := (0 : Nat) } (0 : Nat) [Value.int IntKind.i64 n220, Value.slice p221 k222 k223, Value.int IntKind.i64 n224]) ∧
               Ca Try.prog (32 : Nat) #[Value.agg #[Value.int IntKind.i64 n220, Value.slice p221 k222 k223, Value.int IntKind.i64 n224], Value.int IntKind.i64 n91] w180 fun e225 w226 =>
               ∃ n227 : Int,
               ∃ b228 : Bool,
               (
                e225 = Ending.returned (Value.tuple #[Value.int IntKind.i64 n227, Value.bool b228])) ∧
               ∃ n229 : Int,
               (
                w226.cell? { block := b178, off := (0 : Nat) } = some (Value.int IntKind.i64 n229)) ∧
               ∃ n230 : Int,
               (
                w226.cell? { block := b133, off := (0 : Nat) } = some (Value.int IntKind.i64 n230)) ∧
               LetI (IntKind.i64.wrap (n230 + (1 : Int))) fun n231 =>
               Br (!false == (n229 == n231))
                (
                 R (Ending.returned (Value.bool false)) w226)
                (
                 ∃ n232 : Int,
                 (
                  w226.cell? { block := b178, off := (0 : Nat) } = some (Value.int IntKind.i64 n232)) ∧
                 ∃ n233 : Int,
                 (
                  w226.cell? { block := b133, off := (0 : Nat) } = some (Value.int IntKind.i64 n233)) ∧
                 Br (n232 != n233)
                  (
                   R (Ending.returned (Value.bool false)) w226)
                  (
                   LetI (IntKind.i64.wrap (n84 + (1 : Int))) fun n234 =>
                   ∃ k235 : Nat,
                   (
                    k235 < k85) ∧
                   I81 k235 [Value.bool b83, Value.int IntKind.i64 n234] w226))))
            (
             ∃ n236 : Int,
             ∃ p237 : Option Addr,
             ∃ k238 : Nat,
             ∃ k239 : Nat,
             ∃ n240 : Int,
             (
              Row w180 { block := b178, off := (0 : Nat) } (0 : Nat) [Value.int IntKind.i64 n236, Value.slice p237 k238 k239, Value.int IntKind.i64 n240]) ∧
             Ca Try.prog (32 : Nat) #[Value.agg #[Value.int IntKind.i64 n236, Value.slice p237 k238 k239, Value.int IntKind.i64 n240], Value.int IntKind.i64 n91] w180 fun e241 w242 =>
             ∃ n243 : Int,
             ∃ b244 : Bool,
             (
              e241 = Ending.returned (Value.tuple #[Value.int IntKind.i64 n243, Value.bool b244])) ∧
             ∃ n245 : Int,
             (
              w242.cell? { block := b178, off := (0 : Nat) } = some (Value.int IntKind.i64 n245)) ∧
             ∃ n246 : Int,
             (
              w242.cell? { block := b133, off := (0 : Nat) } = some (Value.int IntKind.i64 n246)) ∧
             LetI (IntKind.i64.wrap (n246 + (1 : Int))) fun n247 =>
             Br (!false == (n245 == n247))
              (
               R (Ending.returned (Value.bool false)) w242)
              (
               ∃ n248 : Int,
               (
                w242.cell? { block := b178, off := (0 : Nat) } = some (Value.int IntKind.i64 n248)) ∧
               ∃ n249 : Int,
               (
                w242.cell? { block := b133, off := (0 : Nat) } = some (Value.int IntKind.i64 n249)) ∧
               Br (n248 != n249)
                (
                 R (Ending.returned (Value.bool false)) w242)
                (
                 LetI (IntKind.i64.wrap (n84 + (1 : Int))) fun n250 =>
                 ∃ k251 : Nat,
                 (
                  k251 < k85) ∧
                 I81 k251 [Value.bool b83, Value.int IntKind.i64 n250] w242)))))
        (
         Ca Try.prog (25 : Nat) #[] w86 fun e252 w253 =>
         ∃ b254 : Bool,
         (
          e252 = Ending.returned (Value.bool b254)) ∧
         R (Ending.returned (Value.bool b254)) w253))))
theorem lawMDrains_ok (n1 : Int) (n2 : Int) (n3 : Int) (p4 : Option Addr) (k5 : Nat) (k6 : Nat) (n7 : Int) (n8 : Int) (n9 : Int) (n10 : Int) (n11 : Int) (n12 : Int) (n13 : Int) (n14 : Int) (p15 : Option Addr) (k16 : Nat) (k17 : Nat) (w : World) (R : Ending → World → Prop) (h : lawMDrains n1 n2 n3 p4 k5 k6 n7 n8 n9 n10 n11 n12 n13 n14 p15 k16 k17 w R) : Ca Try.prog 8 #[Value.agg #[Value.int IntKind.i64 n1, Value.int IntKind.i64 n2, Value.int IntKind.i64 n3, Value.slice p4 k5 k6, Value.int IntKind.i64 n7, Value.int IntKind.i64 n8, Value.int IntKind.i64 n9, Value.int IntKind.i64 n10, Value.int IntKind.i64 n11, Value.int IntKind.i64 n12, Value.int IntKind.i64 n13, Value.int IntKind.i64 n14], Value.slice p15 k16 k17] w R :=
  Ca.of_fvc (c := bodyOf Try.f8) (by kernel_rfl) Try.func8 (by kernel_rfl) [18] (Eq.mp (by kernel_rfl) h)

end Go.Proofs.Ytljipmhkpnigkaa
