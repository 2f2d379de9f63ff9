/- The verification conditions of this seat's functions, printed by a program; the kernel holds each against the loaded code. -/
import Derived.Test.YtljipmhkpnigkaaProg
import Derived.KernelRfl
import Derived.Test.YtljipmhkpnigkaaV5
set_option maxRecDepth 100000
namespace Go.Proofs.Ytljipmhkpnigkaa
open Go Go.Vc Go.Proofs
def lawMSure (n1 : Int) (n2 : Int) (n3 : Int) (p4 : Option Addr) (k5 : Nat) (k6 : Nat) (n7 : Int) (n8 : Int) (n9 : Int) (n10 : Int) (n11 : Int) (n12 : Int) (n13 : Int) (n14 : Int) (p15 : Option Addr) (k16 : Nat) (k17 : Nat) (w : World) (R : Ending → World → Prop) : Prop :=
 LetA (Obj.cells #[Value.int IntKind.i64 n1, Value.int IntKind.i64 n2, Value.int IntKind.i64 n3, Value.slice p4 k5 k6, Value.int IntKind.i64 n7, Value.int IntKind.i64 n8, Value.int IntKind.i64 n9, Value.int IntKind.i64 n10, Value.int IntKind.i64 n11, Value.int IntKind.i64 n12, Value.int IntKind.i64 n13, Value.int IntKind.i64 n14] (24 : Nat)) w fun b18 w19 =>
 ∃ p20 : Option Addr,
 ∃ k21 : Nat,
 ∃ k22 : Nat,
 (
  w19.cell? { block := b18, off := (3 : Nat) } = some (Value.slice p20 k21 k22)) ∧
 Br (decide ((↑k21 : Int) > (20 : Int)))
  (
   Ca Try.prog (25 : Nat) #[] w19 fun e23 w24 =>
   ∃ b25 : Bool,
   (
    e23 = Ending.returned (Value.bool b25)) ∧
   R (Ending.returned (Value.bool b25)) w24)
  (
   Ca Try.prog (24 : Nat) #[Value.slice p15 k16 k17, Value.int IntKind.i64 (40 : Int)] w19 fun e26 w27 =>
   ∃ b28 : Bool,
   (
    e26 = Ending.returned (Value.bool b28)) ∧
   Br (b28)
    (
     Ca Try.prog (25 : Nat) #[] w27 fun e29 w30 =>
     ∃ b31 : Bool,
     (
      e29 = Ending.returned (Value.bool b31)) ∧
     R (Ending.returned (Value.bool b31)) w30)
    (
     ∃ n32 : Int,
     ∃ n33 : Int,
     ∃ n34 : Int,
     ∃ p35 : Option Addr,
     ∃ k36 : Nat,
     ∃ k37 : Nat,
     ∃ n38 : Int,
     ∃ n39 : Int,
     ∃ n40 : Int,
     ∃ n41 : Int,
     ∃ n42 : Int,
     ∃ n43 : Int,
     ∃ n44 : Int,
     ∃ n45 : Int,
     (
      Row w27 { block := b18, off := (0 : Nat) } (0 : Nat) [Value.int IntKind.i64 n32, Value.int IntKind.i64 n33, Value.int IntKind.i64 n34, Value.slice p35 k36 k37, Value.int IntKind.i64 n38, Value.int IntKind.i64 n39, Value.int IntKind.i64 n40, Value.int IntKind.i64 n41, Value.int IntKind.i64 n42, Value.int IntKind.i64 n43, Value.int IntKind.i64 n44, Value.int IntKind.i64 n45]) ∧
     Ca Try.prog (14 : Nat) #[Value.agg #[Value.int IntKind.i64 n32, Value.int IntKind.i64 n33, Value.int IntKind.i64 n34, Value.slice p35 k36 k37, Value.int IntKind.i64 n38, Value.int IntKind.i64 n39, Value.int IntKind.i64 n40, Value.int IntKind.i64 n41, Value.int IntKind.i64 n42, Value.int IntKind.i64 n43, Value.int IntKind.i64 n44, Value.int IntKind.i64 n45]] w27 fun e46 w47 =>
     ∃ n48 : Int,
     ∃ n49 : Int,
     ∃ n50 : Int,
     ∃ p51 : Option Addr,
     ∃ k52 : Nat,
     ∃ k53 : Nat,
     ∃ n54 : Int,
     ∃ n55 : Int,
     ∃ n56 : Int,
     ∃ n57 : Int,
     ∃ n58 : Int,
     ∃ n59 : Int,
     ∃ n60 : Int,
     ∃ n61 : Int,
     (
      e46 = Ending.returned (Value.agg #[Value.int IntKind.i64 n48, Value.int IntKind.i64 n49, Value.int IntKind.i64 n50, Value.slice p51 k52 k53, Value.int IntKind.i64 n54, Value.int IntKind.i64 n55, Value.int IntKind.i64 n56, Value.int IntKind.i64 n57, Value.int IntKind.i64 n58, Value.int IntKind.i64 n59, Value.int IntKind.i64 n60, Value.int IntKind.i64 n61])) ∧
     (
      WrRow w47 { block := b18, off := (0 : Nat) } (0 : Nat) [Value.int IntKind.i64 n48, Value.int IntKind.i64 n49, Value.int IntKind.i64 n50, Value.slice p51 k52 k53, Value.int IntKind.i64 n54, Value.int IntKind.i64 n55, Value.int IntKind.i64 n56, Value.int IntKind.i64 n57, Value.int IntKind.i64 n58, Value.int IntKind.i64 n59, Value.int IntKind.i64 n60, Value.int IntKind.i64 n61]) ∧
     LetW (setRow w47 { block := b18, off := (0 : Nat) } (0 : Nat) [Value.int IntKind.i64 n48, Value.int IntKind.i64 n49, Value.int IntKind.i64 n50, Value.slice p51 k52 k53, Value.int IntKind.i64 n54, Value.int IntKind.i64 n55, Value.int IntKind.i64 n56, Value.int IntKind.i64 n57, Value.int IntKind.i64 n58, Value.int IntKind.i64 n59, Value.int IntKind.i64 n60, Value.int IntKind.i64 n61]) fun w62 =>
     ∃ n63 : Int,
     ∃ n64 : Int,
     ∃ n65 : Int,
     ∃ p66 : Option Addr,
     ∃ k67 : Nat,
     ∃ k68 : Nat,
     ∃ n69 : Int,
     ∃ n70 : Int,
     ∃ n71 : Int,
     ∃ n72 : Int,
     ∃ n73 : Int,
     ∃ n74 : Int,
     ∃ n75 : Int,
     ∃ n76 : Int,
     (
      Row w62 { block := b18, off := (0 : Nat) } (0 : Nat) [Value.int IntKind.i64 n63, Value.int IntKind.i64 n64, Value.int IntKind.i64 n65, Value.slice p66 k67 k68, Value.int IntKind.i64 n69, Value.int IntKind.i64 n70, Value.int IntKind.i64 n71, Value.int IntKind.i64 n72, Value.int IntKind.i64 n73, Value.int IntKind.i64 n74, Value.int IntKind.i64 n75, Value.int IntKind.i64 n76]) ∧
     Ca Try.prog (26 : Nat) #[Value.agg #[Value.int IntKind.i64 n63, Value.int IntKind.i64 n64, Value.int IntKind.i64 n65, Value.slice p66 k67 k68, Value.int IntKind.i64 n69, Value.int IntKind.i64 n70, Value.int IntKind.i64 n71, Value.int IntKind.i64 n72, Value.int IntKind.i64 n73, Value.int IntKind.i64 n74, Value.int IntKind.i64 n75, Value.int IntKind.i64 n76]] w62 fun e77 w78 =>
     ∃ p79 : Option Addr,
     ∃ n80 : Int,
     (
      e77 = Ending.returned (Value.tuple #[Value.pointer p79, Value.int IntKind.i64 n80])) ∧
     Br (n80 != (0 : Int))
      (
       R (Ending.returned (Value.bool false)) w78)
      (
       ∃ I81 : Nat → List Value → World → Prop,
       (
        ∃ k82 : Nat,
        I81 k82 [Value.bool false, Value.int IntKind.i64 (0 : Int)] w78) ∧
       ∀ b83 : Bool,
       ∀ n84 : Int,
       ∀ k85 : Nat,
       ∀ w86 : World,
       (
        I81 k85 [Value.bool b83, Value.int IntKind.i64 n84] w86) →
       Br (decide (n84 < (↑k16 : Int)))
        (
         NilOk p15 fun a87 =>
         (
          (
           (0 : Int) ≤ n84) ∧
          n84 < (↑k16 : Int)) ∧
         ∃ n88 : Int,
         (
          w86.cell? ((a87.add (n84.toNat * (33 : Nat))).add (1 : Nat)) = some (Value.int IntKind.u8 n88)) ∧
         LetI (IntKind.i64.wrap n88) fun n89 =>
         ∃ n90 : Int,
         (
          w86.cell? { block := b18, off := (0 : Nat) } = some (Value.int IntKind.i64 n90)) ∧
         (
          n90 ≠ (0 : Int)) ∧
         LetI (n89.tmod n90) fun n91 =>
         ∃ I92 : List Value → World → Prop,
         (
          NilOk p15 fun a93 =>
          (
           (
            (0 : Int) ≤ n84) ∧
           n84 < (↑k16 : Int)) ∧
          ∃ n94 : Int,
          (
           w86.cell? (a93.add (n84.toNat * (33 : Nat))) = some (Value.int IntKind.u8 n94)) ∧
          (
           (4 : Int) ≠ (0 : Int)) ∧
          LetI (n94.tmod (4 : Int)) fun n95 =>
          Br (n95 == (0 : Int))
           (
            Ca Try.prog (29 : Nat) #[Value.pointer p79, Value.int IntKind.i64 n91, Value.int IntKind.i64 (0 : Int)] w86 fun e96 w97 =>
            ∃ p98 : Option Addr,
            ∃ k99 : Nat,
            ∃ k100 : Nat,
            ∃ n101 : Int,
            (
             e96 = Ending.returned (Value.tuple #[Value.slice p98 k99 k100, Value.int IntKind.i64 n101])) ∧
            I92 [] w97)
           (
            Br (n95 == (1 : Int))
             (
              Ca Try.prog (30 : Nat) #[Value.pointer p79, Value.int IntKind.i64 n91] w86 fun e102 w103 =>
              ∃ p104 : Option Addr,
              ∃ k105 : Nat,
              ∃ k106 : Nat,
              ∃ n107 : Int,
              (
               e102 = Ending.returned (Value.tuple #[Value.slice p104 k105 k106, Value.int IntKind.i64 n107])) ∧
              I92 [] w103)
             (
              Br (n95 == (2 : Int))
               (
                Ca Try.prog (34 : Nat) #[Value.pointer p79, Value.int IntKind.i64 n91] w86 fun e108 w109 =>
                ∃ p110 : Option Addr,
                ∃ k111 : Nat,
                ∃ k112 : Nat,
                ∃ n113 : Int,
                (
                 e108 = Ending.returned (Value.tuple #[Value.slice p110 k111 k112, Value.int IntKind.i64 n113])) ∧
                I92 [] w109)
               (
                Ca Try.prog (28 : Nat) #[Value.pointer p79] w86 fun e114 w115 =>
                ∃ n116 : Int,
                ∃ p117 : Option Addr,
                ∃ k118 : Nat,
                ∃ k119 : Nat,
                ∃ n120 : Int,
                (
                 e114 = Ending.returned (Value.agg #[Value.int IntKind.i64 n116, Value.slice p117 k118 k119, Value.int IntKind.i64 n120])) ∧
                Ca Try.prog (27 : Nat) #[Value.pointer p79, Value.int IntKind.i64 n91, Value.agg #[Value.int IntKind.i64 (11 : Int), Value.int IntKind.i64 n116, Value.int IntKind.i64 (0 : Int), Value.int IntKind.i64 (0 : Int), Value.int IntKind.i64 (0 : Int), Value.int IntKind.i64 (0 : Int), Value.int IntKind.i64 (0 : Int), Value.int IntKind.i64 (0 : Int), Value.string { data := #[] }, Value.string { data := #[] }, Value.int IntKind.i64 (0 : Int), Value.int IntKind.i64 (0 : Int), Value.string { data := #[] }, Value.int IntKind.i64 (0 : Int), Value.int IntKind.i64 (0 : Int), Value.int IntKind.i64 (0 : Int), Value.int IntKind.i64 (0 : Int), Value.int IntKind.i64 (0 : Int), Value.int IntKind.i64 (0 : Int), Value.int IntKind.i64 (0 : Int), Value.string { data := #[] }, Value.string { data := #[] }, Value.int IntKind.i64 (0 : Int), Value.int IntKind.i64 (0 : Int), Value.slice none (0 : Nat) (0 : Nat), Value.int IntKind.i64 (0 : Int), Value.int IntKind.i64 (1 : Int), Value.int IntKind.i64 (0 : Int), Value.int IntKind.i64 (0 : Int)], Value.int IntKind.i64 (0 : Int)] w115 fun e121 w122 =>
                ∃ p123 : Option Addr,
                ∃ k124 : Nat,
                ∃ k125 : Nat,
                (
                 e121 = Ending.returned (Value.slice p123 k124 k125)) ∧
                I92 [] w122)))) ∧
         ∀ w126 : World,
         (
          I92 [] w126) →
         Ca Try.prog (28 : Nat) #[Value.pointer p79] w126 fun e127 w128 =>
         ∃ n129 : Int,
         ∃ p130 : Option Addr,
         ∃ k131 : Nat,
         ∃ k132 : Nat,
         ∃ n133 : Int,
         (
          e127 = Ending.returned (Value.agg #[Value.int IntKind.i64 n129, Value.slice p130 k131 k132, Value.int IntKind.i64 n133])) ∧
         LetA (Obj.cells #[Value.int IntKind.i64 (0 : Int), Value.slice none (0 : Nat) (0 : Nat), Value.int IntKind.i64 (0 : Int)] (32 : Nat)) w128 fun b134 w135 =>
         (
          WrRow w135 { block := b134, off := (0 : Nat) } (0 : Nat) [Value.int IntKind.i64 n129, Value.slice p130 k131 k132, Value.int IntKind.i64 n133]) ∧
         LetW (setRow w135 { block := b134, off := (0 : Nat) } (0 : Nat) [Value.int IntKind.i64 n129, Value.slice p130 k131 k132, Value.int IntKind.i64 n133]) fun w136 =>
         ∃ I137 : Nat → List Value → World → Prop,
         (
          ∃ k138 : Nat,
          I137 k138 [Value.bool b83, Value.int IntKind.i64 (0 : Int)] w136) ∧
         ∀ b139 : Bool,
         ∀ n140 : Int,
         ∀ k141 : Nat,
         ∀ w142 : World,
         (
          I137 k141 [Value.bool b139, Value.int IntKind.i64 n140] w142) →
         ∃ n143 : Int,
         (
          w142.cell? { block := b18, off := (0 : Nat) } = some (Value.int IntKind.i64 n143)) ∧
         Br (decide (n140 < n143))
          (
           ∃ I144 : Nat → List Value → World → Prop,
           (
            ∃ k145 : Nat,
            I144 k145 [Value.bool b139, Value.int IntKind.i64 (-1 : Int)] w142) ∧
           ∀ b146 : Bool,
           ∀ n147 : Int,
           ∀ k148 : Nat,
           ∀ w149 : World,
           (
            I144 k148 [Value.bool b146, Value.int IntKind.i64 n147] w149) →
           Br (decide (n147 < (2 : Int)))
            (
             ∃ n150 : Int,
             (
              w149.cell? { block := b134, off := (0 : Nat) } = some (Value.int IntKind.i64 n150)) ∧
             LetI (IntKind.i64.wrap (n150 + n147)) fun n151 =>
             LetI (IntKind.i64.wrap (n84 + (1 : Int))) fun n152 =>
             Ca Try.prog (27 : Nat) #[Value.pointer p79, Value.int IntKind.i64 n140, Value.agg #[Value.int IntKind.i64 (9 : Int), Value.int IntKind.i64 n151, Value.int IntKind.i64 (0 : Int), Value.int IntKind.i64 (0 : Int), Value.int IntKind.i64 (0 : Int), Value.int IntKind.i64 (0 : Int), Value.int IntKind.i64 (0 : Int), Value.int IntKind.i64 (0 : Int), Value.string { data := #[] }, Value.string { data := #[] }, Value.int IntKind.i64 (0 : Int), Value.int IntKind.i64 (0 : Int), Value.string { data := #[] }, Value.int IntKind.i64 (0 : Int), Value.int IntKind.i64 (0 : Int), Value.int IntKind.i64 (0 : Int), Value.int IntKind.i64 (0 : Int), Value.int IntKind.i64 (0 : Int), Value.int IntKind.i64 (0 : Int), Value.int IntKind.i64 (0 : Int), Value.string { data := #[] }, Value.string { data := #[] }, Value.int IntKind.i64 (0 : Int), Value.int IntKind.i64 (0 : Int), Value.slice none (0 : Nat) (0 : Nat), Value.int IntKind.i64 (0 : Int), Value.int IntKind.i64 n152, Value.int IntKind.i64 (0 : Int), Value.int IntKind.i64 (0 : Int)], Value.int IntKind.i64 (0 : Int)] w149 fun e153 w154 =>
             ∃ p155 : Option Addr,
             ∃ k156 : Nat,
             ∃ k157 : Nat,
             (
              e153 = Ending.returned (Value.slice p155 k156 k157)) ∧
             Br ((↑k156 : Int) == (1 : Int))
              (
               NilOk p155 fun a158 =>
               (
                (
                 (0 : Int) ≤ (0 : Int)) ∧
                (0 : Int) < (↑k156 : Int)) ∧
               ∃ n159 : Int,
               (
                w154.cell? (a158.add (1 : Nat)) = some (Value.int IntKind.i64 n159)) ∧
               Br (n159 == (10 : Int))
                (
                 NilOk p155 fun a160 =>
                 (
                  (
                   (0 : Int) ≤ (0 : Int)) ∧
                  (0 : Int) < (↑k156 : Int)) ∧
                 ∃ n161 : Int,
                 (
                  w154.cell? a160 = some (Value.int IntKind.i64 n161)) ∧
                 Br (n161 == n140)
                  (
                   NilOk p155 fun a162 =>
                   (
                    (
                     (0 : Int) ≤ (0 : Int)) ∧
                    (0 : Int) < (↑k156 : Int)) ∧
                   ∃ n163 : Int,
                   (
                    w154.cell? ((a162.add (1 : Nat)).add (26 : Nat)) = some (Value.int IntKind.i64 n163)) ∧
                   LetI (IntKind.i64.wrap (n84 + (1 : Int))) fun n164 =>
                   Br (n163 == n164)
                    (
                     NilOk p155 fun a165 =>
                     (
                      (
                       (0 : Int) ≤ (0 : Int)) ∧
                      (0 : Int) < (↑k156 : Int)) ∧
                     ∃ n166 : Int,
                     (
                      w154.cell? ((a165.add (1 : Nat)).add (1 : Nat)) = some (Value.int IntKind.i64 n166)) ∧
                     ∃ n167 : Int,
                     (
                      w154.cell? { block := b134, off := (0 : Nat) } = some (Value.int IntKind.i64 n167)) ∧
                     Br (n147 == (0 : Int))
                      (
                       ∃ n168 : Int,
                       ∃ p169 : Option Addr,
                       ∃ k170 : Nat,
                       ∃ k171 : Nat,
                       ∃ n172 : Int,
                       (
                        Row w154 { block := b134, off := (0 : Nat) } (0 : Nat) [Value.int IntKind.i64 n168, Value.slice p169 k170 k171, Value.int IntKind.i64 n172]) ∧
                       Ca Try.prog (23 : Nat) #[Value.agg #[Value.int IntKind.i64 n168, Value.slice p169 k170 k171, Value.int IntKind.i64 n172]] w154 fun e173 w174 =>
                       ∃ n175 : Int,
                       (
                        e173 = Ending.returned (Value.int IntKind.i64 n175)) ∧
                       Br (!(n166 == n167) == (n175 == n140))
                        (
                         R (Ending.returned (Value.bool false)) w174)
                        (
                         Br (n147 != (0 : Int))
                          (
                           Br ((↑k156 : Int) != (1 : Int))
                            (
                             R (Ending.returned (Value.bool false)) w174)
                            (
                             NilOk p155 fun a176 =>
                             (
                              (
                               (0 : Int) ≤ (0 : Int)) ∧
                              (0 : Int) < (↑k156 : Int)) ∧
                             ∃ n177 : Int,
                             (
                              w174.cell? (a176.add (1 : Nat)) = some (Value.int IntKind.i64 n177)) ∧
                             Br (n177 != (8 : Int))
                              (
                               R (Ending.returned (Value.bool false)) w174)
                              (
                               Br (n147 == (0 : Int))
                                (
                                 Br (!n166 == n167)
                                  (
                                   Br ((↑k156 : Int) != (0 : Int))
                                    (
                                     R (Ending.returned (Value.bool false)) w174)
                                    (
                                     LetI (IntKind.i64.wrap (n147 + (1 : Int))) fun n178 =>
                                     ∃ k179 : Nat,
                                     (
                                      k179 < k148) ∧
                                     I144 k179 [Value.bool b146, Value.int IntKind.i64 n178] w174))
                                  (
                                   LetI (IntKind.i64.wrap (n147 + (1 : Int))) fun n180 =>
                                   ∃ k181 : Nat,
                                   (
                                    k181 < k148) ∧
                                   I144 k181 [Value.bool b146, Value.int IntKind.i64 n180] w174))
                                (
                                 LetI (IntKind.i64.wrap (n147 + (1 : Int))) fun n182 =>
                                 ∃ k183 : Nat,
                                 (
                                  k183 < k148) ∧
                                 I144 k183 [Value.bool b146, Value.int IntKind.i64 n182] w174))))
                          (
                           Br (n147 == (0 : Int))
                            (
                             Br (!n166 == n167)
                              (
                               Br ((↑k156 : Int) != (0 : Int))
                                (
                                 R (Ending.returned (Value.bool false)) w174)
                                (
                                 LetI (IntKind.i64.wrap (n147 + (1 : Int))) fun n184 =>
                                 ∃ k185 : Nat,
                                 (
                                  k185 < k148) ∧
                                 I144 k185 [Value.bool b146, Value.int IntKind.i64 n184] w174))
                              (
                               LetI (IntKind.i64.wrap (n147 + (1 : Int))) fun n186 =>
                               ∃ k187 : Nat,
                               (
                                k187 < k148) ∧
                               I144 k187 [Value.bool b146, Value.int IntKind.i64 n186] w174))
                            (
                             LetI (IntKind.i64.wrap (n147 + (1 : Int))) fun n188 =>
                             ∃ k189 : Nat,
                             (
                              k189 < k148) ∧
                             I144 k189 [Value.bool b146, Value.int IntKind.i64 n188] w174))))
                      (
                       Br (!(n166 == n167) == false)
                        (
                         R (Ending.returned (Value.bool false)) w154)
                        (
                         Br (n147 != (0 : Int))
                          (
                           Br ((↑k156 : Int) != (1 : Int))
                            (
                             R (Ending.returned (Value.bool false)) w154)
                            (
                             NilOk p155 fun a190 =>
                             (
                              (
                               (0 : Int) ≤ (0 : Int)) ∧
                              (0 : Int) < (↑k156 : Int)) ∧
                             ∃ n191 : Int,
                             (
                              w154.cell? (a190.add (1 : Nat)) = some (Value.int IntKind.i64 n191)) ∧
                             Br (n191 != (8 : Int))
                              (
                               R (Ending.returned (Value.bool false)) w154)
                              (
                               Br (n147 == (0 : Int))
                                (
                                 Br (!n166 == n167)
                                  (
                                   Br ((↑k156 : Int) != (0 : Int))
                                    (
                                     R (Ending.returned (Value.bool false)) w154)
                                    (
                                     LetI (IntKind.i64.wrap (n147 + (1 : Int))) fun n192 =>
                                     ∃ k193 : Nat,
                                     (
                                      k193 < k148) ∧
                                     I144 k193 [Value.bool b146, Value.int IntKind.i64 n192] w154))
                                  (
                                   LetI (IntKind.i64.wrap (n147 + (1 : Int))) fun n194 =>
                                   ∃ k195 : Nat,
                                   (
                                    k195 < k148) ∧
                                   I144 k195 [Value.bool b146, Value.int IntKind.i64 n194] w154))
                                (
                                 LetI (IntKind.i64.wrap (n147 + (1 : Int))) fun n196 =>
                                 ∃ k197 : Nat,
                                 (
                                  k197 < k148) ∧
                                 I144 k197 [Value.bool b146, Value.int IntKind.i64 n196] w154))))
                          (
                           Br (n147 == (0 : Int))
                            (
                             Br (!n166 == n167)
                              (
                               Br ((↑k156 : Int) != (0 : Int))
                                (
                                 R (Ending.returned (Value.bool false)) w154)
                                (
                                 LetI (IntKind.i64.wrap (n147 + (1 : Int))) fun n198 =>
                                 ∃ k199 : Nat,
                                 (
                                  k199 < k148) ∧
                                 I144 k199 [Value.bool b146, Value.int IntKind.i64 n198] w154))
                              (
                               LetI (IntKind.i64.wrap (n147 + (1 : Int))) fun n200 =>
                               ∃ k201 : Nat,
                               (
                                k201 < k148) ∧
                               I144 k201 [Value.bool b146, Value.int IntKind.i64 n200] w154))
                            (
                             LetI (IntKind.i64.wrap (n147 + (1 : Int))) fun n202 =>
                             ∃ k203 : Nat,
                             (
                              k203 < k148) ∧
                             I144 k203 [Value.bool b146, Value.int IntKind.i64 n202] w154)))))
                    (
                     Br (n147 == (0 : Int))
                      (
                       ∃ n204 : Int,
                       ∃ p205 : Option Addr,
                       ∃ k206 : Nat,
                       ∃ k207 : Nat,
                       ∃ n208 : Int,
                       (
                        Row w154 { block := b134, off := (0 : Nat) } (0 : Nat) [Value.int IntKind.i64 n204, Value.slice p205 k206 k207, Value.int IntKind.i64 n208]) ∧
                       Ca Try.prog (23 : Nat) #[Value.agg #[Value.int IntKind.i64 n204, Value.slice p205 k206 k207, Value.int IntKind.i64 n208]] w154 fun e209 w210 =>
                       ∃ n211 : Int,
                       (
                        e209 = Ending.returned (Value.int IntKind.i64 n211)) ∧
                       Br (!false == (n211 == n140))
                        (
                         R (Ending.returned (Value.bool false)) w210)
                        (
                         Br (n147 != (0 : Int))
                          (
                           Br ((↑k156 : Int) != (1 : Int))
                            (
                             R (Ending.returned (Value.bool false)) w210)
                            (
                             NilOk p155 fun a212 =>
                             (
                              (
                               (0 : Int) ≤ (0 : Int)) ∧
                              (0 : Int) < (↑k156 : Int)) ∧
                             ∃ n213 : Int,
                             (
                              w210.cell? (a212.add (1 : Nat)) = some (Value.int IntKind.i64 n213)) ∧
                             Br (n213 != (8 : Int))
                              (
                               R (Ending.returned (Value.bool false)) w210)
                              (
                               Br (n147 == (0 : Int))
                                (
                                 Br ((↑k156 : Int) != (0 : Int))
                                  (
                                   R (Ending.returned (Value.bool false)) w210)
                                  (
                                   LetI (IntKind.i64.wrap (n147 + (1 : Int))) fun n214 =>
                                   ∃ k215 : Nat,
                                   (
                                    k215 < k148) ∧
                                   I144 k215 [Value.bool b146, Value.int IntKind.i64 n214] w210))
                                (
                                 LetI (IntKind.i64.wrap (n147 + (1 : Int))) fun n216 =>
                                 ∃ k217 : Nat,
                                 (
                                  k217 < k148) ∧
                                 I144 k217 [Value.bool b146, Value.int IntKind.i64 n216] w210))))
                          (
                           Br (n147 == (0 : Int))
                            (
                             Br ((↑k156 : Int) != (0 : Int))
                              (
                               R (Ending.returned (Value.bool false)) w210)
                              (
                               LetI (IntKind.i64.wrap (n147 + (1 : Int))) fun n218 =>
                               ∃ k219 : Nat,
                               (
                                k219 < k148) ∧
                               I144 k219 [Value.bool b146, Value.int IntKind.i64 n218] w210))
                            (
                             LetI (IntKind.i64.wrap (n147 + (1 : Int))) fun n220 =>
                             ∃ k221 : Nat,
                             (
                              k221 < k148) ∧
                             I144 k221 [Value.bool b146, Value.int IntKind.i64 n220] w210))))
                      (
                       Br (n147 != (0 : Int))
                        (
                         Br ((↑k156 : Int) != (1 : Int))
                          (
                           R (Ending.returned (Value.bool false)) w154)
                          (
                           NilOk p155 fun a222 =>
                           (
                            (
                             (0 : Int) ≤ (0 : Int)) ∧
                            (0 : Int) < (↑k156 : Int)) ∧
                           ∃ n223 : Int,
                           (
                            w154.cell? (a222.add (1 : Nat)) = some (Value.int IntKind.i64 n223)) ∧
                           Br (n223 != (8 : Int))
                            (
                             R (Ending.returned (Value.bool false)) w154)
                            (
                             Br (n147 == (0 : Int))
                              (
                               Br ((↑k156 : Int) != (0 : Int))
                                (
                                 R (Ending.returned (Value.bool false)) w154)
                                (
                                 LetI (IntKind.i64.wrap (n147 + (1 : Int))) fun n224 =>
                                 ∃ k225 : Nat,
                                 (
                                  k225 < k148) ∧
                                 I144 k225 [Value.bool b146, Value.int IntKind.i64 n224] w154))
                              (
                               LetI (IntKind.i64.wrap (n147 + (1 : Int))) fun n226 =>
                               ∃ k227 : Nat,
                               (
                                k227 < k148) ∧
                               I144 k227 [Value.bool b146, Value.int IntKind.i64 n226] w154))))
                        (
                         Br (n147 == (0 : Int))
                          (
                           Br ((↑k156 : Int) != (0 : Int))
                            (
                             R (Ending.returned (Value.bool false)) w154)
                            (
                             LetI (IntKind.i64.wrap (n147 + (1 : Int))) fun n228 =>
                             ∃ k229 : Nat,
                             (
                              k229 < k148) ∧
                             I144 k229 [Value.bool b146, Value.int IntKind.i64 n228] w154))
                          (
                           LetI (IntKind.i64.wrap (n147 + (1 : Int))) fun n230 =>
                           ∃ k231 : Nat,
                           (
                            k231 < k148) ∧
                           I144 k231 [Value.bool b146, Value.int IntKind.i64 n230] w154)))))
                  (
                   Br (n147 == (0 : Int))
                    (
                     ∃ n232 : Int,
                     ∃ p233 : Option Addr,
                     ∃ k234 : Nat,
                     ∃ k235 : Nat,
                     ∃ n236 : Int,
                     (
                      Row w154 { block := b134, off := (0 : Nat) } (0 : Nat) [Value.int IntKind.i64 n232, Value.slice p233 k234 k235, Value.int IntKind.i64 n236]) ∧
                     Ca Try.prog (23 : Nat) #[Value.agg #[Value.int IntKind.i64 n232, Value.slice p233 k234 k235, Value.int IntKind.i64 n236]] w154 fun e237 w238 =>
                     ∃ n239 : Int,
                     (
                      e237 = Ending.returned (Value.int IntKind.i64 n239)) ∧
                     Br (!false == (n239 == n140))
                      (
                       R (Ending.returned (Value.bool false)) w238)
                      (
                       Br (n147 != (0 : Int))
                        (
                         Br ((↑k156 : Int) != (1 : Int))
                          (
                           R (Ending.returned (Value.bool false)) w238)
                          (
                           NilOk p155 fun a240 =>
                           (
                            (
                             (0 : Int) ≤ (0 : Int)) ∧
                            (0 : Int) < (↑k156 : Int)) ∧
                           ∃ n241 : Int,
                           (
                            w238.cell? (a240.add (1 : Nat)) = some (Value.int IntKind.i64 n241)) ∧
                           Br (n241 != (8 : Int))
                            (
                             R (Ending.returned (Value.bool false)) w238)
                            (
                             Br (n147 == (0 : Int))
                              (
                               Br ((↑k156 : Int) != (0 : Int))
                                (
                                 R (Ending.returned (Value.bool false)) w238)
                                (
                                 LetI (IntKind.i64.wrap (n147 + (1 : Int))) fun n242 =>
                                 ∃ k243 : Nat,
                                 (
                                  k243 < k148) ∧
                                 I144 k243 [Value.bool b146, Value.int IntKind.i64 n242] w238))
                              (
                               LetI (IntKind.i64.wrap (n147 + (1 : Int))) fun n244 =>
                               ∃ k245 : Nat,
                               (
                                k245 < k148) ∧
                               I144 k245 [Value.bool b146, Value.int IntKind.i64 n244] w238))))
                        (
                         Br (n147 == (0 : Int))
                          (
                           Br ((↑k156 : Int) != (0 : Int))
                            (
                             R (Ending.returned (Value.bool false)) w238)
                            (
                             LetI (IntKind.i64.wrap (n147 + (1 : Int))) fun n246 =>
                             ∃ k247 : Nat,
                             (
                              k247 < k148) ∧
                             I144 k247 [Value.bool b146, Value.int IntKind.i64 n246] w238))
                          (
                           LetI (IntKind.i64.wrap (n147 + (1 : Int))) fun n248 =>
                           ∃ k249 : Nat,
                           (
                            k249 < k148) ∧
                           I144 k249 [Value.bool b146, Value.int IntKind.i64 n248] w238))))
                    (
                     Br (n147 != (0 : Int))
                      (
                       Br ((↑k156 : Int) != (1 : Int))
                        (
                         R (Ending.returned (Value.bool false)) w154)
                        (
                         NilOk p155 fun a250 =>
                         (
                          (
                           (0 : Int) ≤ (0 : Int)) ∧
                          (0 : Int) < (↑k156 : Int)) ∧
                         ∃ n251 : Int,
                         (
                          w154.cell? (a250.add (1 : Nat)) = some (Value.int IntKind.i64 n251)) ∧
                         Br (n251 != (8 : Int))
                          (
                           R (Ending.returned (Value.bool false)) w154)
                          (
                           Br (n147 == (0 : Int))
                            (
                             Br ((↑k156 : Int) != (0 : Int))
                              (
                               R (Ending.returned (Value.bool false)) w154)
                              (
                               LetI (IntKind.i64.wrap (n147 + (1 : Int))) fun n252 =>
                               ∃ k253 : Nat,
                               (
                                k253 < k148) ∧
                               I144 k253 [Value.bool b146, Value.int IntKind.i64 n252] w154))
                            (
                             LetI (IntKind.i64.wrap (n147 + (1 : Int))) fun n254 =>
                             ∃ k255 : Nat,
                             (
                              k255 < k148) ∧
                             I144 k255 [Value.bool b146, Value.int IntKind.i64 n254] w154))))
                      (
                       Br (n147 == (0 : Int))
                        (
                         Br ((↑k156 : Int) != (0 : Int))
                          (
                           R (Ending.returned (Value.bool false)) w154)
                          (
                           LetI (IntKind.i64.wrap (n147 + (1 : Int))) fun n256 =>
                           ∃ k257 : Nat,
                           (
                            k257 < k148) ∧
                           I144 k257 [Value.bool b146, Value.int IntKind.i64 n256] w154))
                        (
                         LetI (IntKind.i64.wrap (n147 + (1 : Int))) fun n258 =>
                         ∃ k259 : Nat,
                         (
                          k259 < k148) ∧
                         I144 k259 [Value.bool b146, Value.int IntKind.i64 n258] w154)))))
                (
                 Br (n147 == (0 : Int))
                  (
                   ∃ n260 : Int,
                   ∃ p261 : Option Addr,
                   ∃ k262 : Nat,
                   ∃ k263 : Nat,
                   ∃ n264 : Int,
                   (
                    Row w154 { block := b134, off := (0 : Nat) } (0 : Nat) [Value.int IntKind.i64 n260, Value.slice p261 k262 k263, Value.int IntKind.i64 n264]) ∧
                   Ca Try.prog (23 : Nat) #[Value.agg #[Value.int IntKind.i64 n260, Value.slice p261 k262 k263, Value.int IntKind.i64 n264]] w154 fun e265 w266 =>
                   ∃ n267 : Int,
                   (
                    e265 = Ending.returned (Value.int IntKind.i64 n267)) ∧
                   Br (!false == (n267 == n140))
                    (
                     R (Ending.returned (Value.bool false)) w266)
                    (
                     Br (n147 != (0 : Int))
                      (
                       Br ((↑k156 : Int) != (1 : Int))
                        (
                         R (Ending.returned (Value.bool false)) w266)
                        (
                         NilOk p155 fun a268 =>
                         (
                          (
                           (0 : Int) ≤ (0 : Int)) ∧
                          (0 : Int) < (↑k156 : Int)) ∧
                         ∃ n269 : Int,
                         (
                          w266.cell? (a268.add (1 : Nat)) = some (Value.int IntKind.i64 n269)) ∧
                         Br (n269 != (8 : Int))
                          (
                           R (Ending.returned (Value.bool false)) w266)
                          (
                           Br (n147 == (0 : Int))
                            (
                             Br ((↑k156 : Int) != (0 : Int))
                              (
                               R (Ending.returned (Value.bool false)) w266)
                              (
                               LetI (IntKind.i64.wrap (n147 + (1 : Int))) fun n270 =>
                               ∃ k271 : Nat,
                               (
                                k271 < k148) ∧
                               I144 k271 [Value.bool b146, Value.int IntKind.i64 n270] w266))
                            (
                             LetI (IntKind.i64.wrap (n147 + (1 : Int))) fun n272 =>
                             ∃ k273 : Nat,
                             (
                              k273 < k148) ∧
                             I144 k273 [Value.bool b146, Value.int IntKind.i64 n272] w266))))
                      (
                       Br (n147 == (0 : Int))
                        (
                         Br ((↑k156 : Int) != (0 : Int))
                          (
                           R (Ending.returned (Value.bool false)) w266)
                          (
                           LetI (IntKind.i64.wrap (n147 + (1 : Int))) fun n274 =>
                           ∃ k275 : Nat,
                           (
                            k275 < k148) ∧
                           I144 k275 [Value.bool b146, Value.int IntKind.i64 n274] w266))
                        (
                         LetI (IntKind.i64.wrap (n147 + (1 : Int))) fun n276 =>
                         ∃ k277 : Nat,
                         (
                          k277 < k148) ∧
                         I144 k277 [Value.bool b146, Value.int IntKind.i64 n276] w266))))
                  (
                   Br (n147 != (0 : Int))
                    (
                     Br ((↑k156 : Int) != (1 : Int))
                      (
                       R (Ending.returned (Value.bool false)) w154)
                      (
                       NilOk p155 fun a278 =>
                       (
                        (
                         (0 : Int) ≤ (0 : Int)) ∧
                        (0 : Int) < (↑k156 : Int)) ∧
                       ∃ n279 : Int,
                       (
                        w154.cell? (a278.add (1 : Nat)) = some (Value.int IntKind.i64 n279)) ∧
                       Br (n279 != (8 : Int))
                        (
                         R (Ending.returned (Value.bool false)) w154)
                        (
                         Br (n147 == (0 : Int))
                          (
                           Br ((↑k156 : Int) != (0 : Int))
                            (
                             R (Ending.returned (Value.bool false)) w154)
                            (
                             LetI (IntKind.i64.wrap (n147 + (1 : Int))) fun n280 =>
                             ∃ k281 : Nat,
                             (
                              k281 < k148) ∧
                             I144 k281 [Value.bool b146, Value.int IntKind.i64 n280] w154))
                          (
                           LetI (IntKind.i64.wrap (n147 + (1 : Int))) fun n282 =>
                           ∃ k283 : Nat,
                           (
                            k283 < k148) ∧
                           I144 k283 [Value.bool b146, Value.int IntKind.i64 n282] w154))))
                    (
                     Br (n147 == (0 : Int))
                      (
                       Br ((↑k156 : Int) != (0 : Int))
                        (
                         R (Ending.returned (Value.bool false)) w154)
                        (
                         LetI (IntKind.i64.wrap (n147 + (1 : Int))) fun n284 =>
                         ∃ k285 : Nat,
                         (
                          k285 < k148) ∧
                         I144 k285 [Value.bool b146, Value.int IntKind.i64 n284] w154))
                      (
                       LetI (IntKind.i64.wrap (n147 + (1 : Int))) fun n286 =>
                       ∃ k287 : Nat,
                       (
                        k287 < k148) ∧
                       I144 k287 [Value.bool b146, Value.int IntKind.i64 n286] w154)))))
              (
               Br (n147 == (0 : Int))
                (
                 ∃ n288 : Int,
                 ∃ p289 : Option Addr,
                 ∃ k290 : Nat,
                 ∃ k291 : Nat,
                 ∃ n292 : Int,
                 (
                  Row w154 { block := b134, off := (0 : Nat) } (0 : Nat) [Value.int IntKind.i64 n288, Value.slice p289 k290 k291, Value.int IntKind.i64 n292]) ∧
                 Ca Try.prog (23 : Nat) #[Value.agg #[Value.int IntKind.i64 n288, Value.slice p289 k290 k291, Value.int IntKind.i64 n292]] w154 fun e293 w294 =>
                 ∃ n295 : Int,
                 (
                  e293 = Ending.returned (Value.int IntKind.i64 n295)) ∧
                 Br (!false == (n295 == n140))
                  (
                   R (Ending.returned (Value.bool false)) w294)
                  (
                   Br (n147 != (0 : Int))
                    (
                     Br ((↑k156 : Int) != (1 : Int))
                      (
                       R (Ending.returned (Value.bool false)) w294)
                      (
                       NilOk p155 fun a296 =>
                       (
                        (
                         (0 : Int) ≤ (0 : Int)) ∧
                        (0 : Int) < (↑k156 : Int)) ∧
                       ∃ n297 : Int,
                       (
                        w294.cell? (a296.add (1 : Nat)) = some (Value.int IntKind.i64 n297)) ∧
                       Br (n297 != (8 : Int))
                        (
                         R (Ending.returned (Value.bool false)) w294)
                        (
                         Br (n147 == (0 : Int))
                          (
                           Br ((↑k156 : Int) != (0 : Int))
                            (
                             R (Ending.returned (Value.bool false)) w294)
                            (
                             LetI (IntKind.i64.wrap (n147 + (1 : Int))) fun n298 =>
                             ∃ k299 : Nat,
                             (
                              k299 < k148) ∧
                             I144 k299 [Value.bool b146, Value.int IntKind.i64 n298] w294))
                          (
                           LetI (IntKind.i64.wrap (n147 + (1 : Int))) fun n300 =>
                           ∃ k301 : Nat,
                           (
                            k301 < k148) ∧
                           I144 k301 [Value.bool b146, Value.int IntKind.i64 n300] w294))))
                    (
                     Br (n147 == (0 : Int))
                      (
                       Br ((↑k156 : Int) != (0 : Int))
                        (
                         R (Ending.returned (Value.bool false)) w294)
                        (
                         LetI (IntKind.i64.wrap (n147 + (1 : Int))) fun n302 =>
                         ∃ k303 : Nat,
                         (
                          k303 < k148) ∧
                         I144 k303 [Value.bool b146, Value.int IntKind.i64 n302] w294))
                      (
                       LetI (IntKind.i64.wrap (n147 + (1 : Int))) fun n304 =>
                       ∃ k305 : Nat,
                       (
                        k305 < k148) ∧
                       I144 k305 [Value.bool b146, Value.int IntKind.i64 n304] w294))))
                (
                 Br (n147 != (0 : Int))
                  (
                   Br ((↑k156 : Int) != (1 : Int))
                    (
                     R (Ending.returned (Value.bool false)) w154)
                    (
                     NilOk p155 fun a306 =>
                     (
                      (
                       (0 : Int) ≤ (0 : Int)) ∧
                      (0 : Int) < (↑k156 : Int)) ∧
                     ∃ n307 : Int,
                     (
                      w154.cell? (a306.add (1 : Nat)) = some (Value.int IntKind.i64 n307)) ∧
                     Br (n307 != (8 : Int))
                      (
                       R (Ending.returned (Value.bool false)) w154)
                      (
                       Br (n147 == (0 : Int))
                        (
                         Br ((↑k156 : Int) != (0 : Int))
                          (
                           R (Ending.returned (Value.bool false)) w154)
                          (
                           LetI (IntKind.i64.wrap (n147 + (1 : Int))) fun n308 =>
                           ∃ k309 : Nat,
                           (
                            k309 < k148) ∧
                           I144 k309 [Value.bool b146, Value.int IntKind.i64 n308] w154))
                        (
                         LetI (IntKind.i64.wrap (n147 + (1 : Int))) fun n310 =>
                         ∃ k311 : Nat,
                         (
                          k311 < k148) ∧
                         I144 k311 [Value.bool b146, Value.int IntKind.i64 n310] w154))))
                  (
                   Br (n147 == (0 : Int))
                    (
                     Br ((↑k156 : Int) != (0 : Int))
                      (
                       R (Ending.returned (Value.bool false)) w154)
                      (
                       LetI (IntKind.i64.wrap (n147 + (1 : Int))) fun n312 =>
                       ∃ k313 : Nat,
                       (
                        k313 < k148) ∧
                       I144 k313 [Value.bool b146, Value.int IntKind.i64 n312] w154))
                    (
                     LetI (IntKind.i64.wrap (n147 + (1 : Int))) fun n314 =>
                     ∃ k315 : Nat,
                     (
                      k315 < k148) ∧
                     I144 k315 [Value.bool b146, Value.int IntKind.i64 n314] w154)))))
            (
             LetI (IntKind.i64.wrap (n140 + (1 : Int))) fun n316 =>
             ∃ k317 : Nat,
             (
              k317 < k141) ∧
             I137 k317 [Value.bool b146, Value.int IntKind.i64 n316] w149))
          (
           Ca Try.prog (27 : Nat) #[Value.pointer p79, Value.int IntKind.i64 (40 : Int), Value.agg #[Value.int IntKind.i64 (7 : Int), Value.int IntKind.i64 (0 : Int), Value.int IntKind.i64 (0 : Int), Value.int IntKind.i64 (0 : Int), Value.int IntKind.i64 (0 : Int), Value.int IntKind.i64 (0 : Int), Value.int IntKind.i64 (0 : Int), Value.int IntKind.i64 (0 : Int), Value.string { data := #[] }, Value.string { data := #[] }, Value.int IntKind.i64 (0 : Int), Value.int IntKind.i64 (0 : Int), Value.string { data := #[] }, Value.int IntKind.i64 (0 : Int), Value.int IntKind.i64 (0 : Int), Value.int IntKind.i64 (0 : Int), Value.int IntKind.i64 (0 : Int), Value.int IntKind.i64 (0 : Int), Value.int IntKind.i64 (0 : Int), Value.int IntKind.i64 (0 : Int), Value.string { data := #[] }, Value.string { data := #[] }, Value.int IntKind.i64 (0 : Int), Value.int IntKind.i64 (0 : Int), Value.slice none (0 : Nat) (0 : Nat), Value.int IntKind.i64 (0 : Int), Value.int IntKind.i64 (0 : Int), Value.int IntKind.i64 (0 : Int), Value.int IntKind.i64 (0 : Int)], Value.int IntKind.i64 (0 : Int)] w142 fun e318 w319 =>
           ∃ p320 : Option Addr,
           ∃ k321 : Nat,
           ∃ k322 : Nat,
           (
            e318 = Ending.returned (Value.slice p320 k321 k322)) ∧
           Br ((↑k321 : Int) != (1 : Int))
            (
             R (Ending.returned (Value.bool false)) w319)
            (
             NilOk p320 fun a323 =>
             (
              (
               (0 : Int) ≤ (0 : Int)) ∧
              (0 : Int) < (↑k321 : Int)) ∧
             ∃ n324 : Int,
             (
              w319.cell? a323 = some (Value.int IntKind.i64 n324)) ∧
             Br (n324 != (40 : Int))
              (
               R (Ending.returned (Value.bool false)) w319)
              (
               NilOk p320 fun a325 =>
               (
                (
                 (0 : Int) ≤ (0 : Int)) ∧
                (0 : Int) < (↑k321 : Int)) ∧
               ∃ n326 : Int,
               ∃ p327 : Option Addr,
               ∃ k328 : Nat,
               ∃ k329 : Nat,
               ∃ n330 : Int,
               (
                Row w319 ((a325.add (1 : Nat)).add (23 : Nat)) (0 : Nat) [Value.int IntKind.i64 n326, Value.slice p327 k328 k329, Value.int IntKind.i64 n330]) ∧
               ∃ n331 : Int,
               ∃ p332 : Option Addr,
               ∃ k333 : Nat,
               ∃ k334 : Nat,
               ∃ n335 : Int,
               (
                Row w319 { block := b134, off := (0 : Nat) } (0 : Nat) [Value.int IntKind.i64 n331, Value.slice p332 k333 k334, Value.int IntKind.i64 n335]) ∧
               Ca Try.prog (35 : Nat) #[Value.agg #[Value.int IntKind.i64 n326, Value.slice p327 k328 k329, Value.int IntKind.i64 n330], Value.agg #[Value.int IntKind.i64 n331, Value.slice p332 k333 k334, Value.int IntKind.i64 n335]] w319 fun e336 w337 =>
               ∃ b338 : Bool,
               (
                e336 = Ending.returned (Value.bool b338)) ∧
               Br (!b338)
                (
                 R (Ending.returned (Value.bool false)) w337)
                (
                 ∃ n339 : Int,
                 ∃ p340 : Option Addr,
                 ∃ k341 : Nat,
                 ∃ k342 : Nat,
                 ∃ n343 : Int,
                 (
                  Row w337 { block := b134, off := (0 : Nat) } (0 : Nat) [Value.int IntKind.i64 n339, Value.slice p340 k341 k342, Value.int IntKind.i64 n343]) ∧
                 Ca Try.prog (28 : Nat) #[Value.pointer p79] w337 fun e344 w345 =>
                 ∃ n346 : Int,
                 ∃ p347 : Option Addr,
                 ∃ k348 : Nat,
                 ∃ k349 : Nat,
                 ∃ n350 : Int,
                 (
                  e344 = Ending.returned (Value.agg #[Value.int IntKind.i64 n346, Value.slice p347 k348 k349, Value.int IntKind.i64 n350])) ∧
                 (
                  Row w345 { block := b134, off := (0 : Nat) } (0 : Nat) [Value.int IntKind.i64 n339, Value.slice p340 k341 k342, Value.int IntKind.i64 n343]) ∧
                 Ca Try.prog (35 : Nat) #[Value.agg #[Value.int IntKind.i64 n346, Value.slice p347 k348 k349, Value.int IntKind.i64 n350], Value.agg #[Value.int IntKind.i64 n339, Value.slice p340 k341 k342, Value.int IntKind.i64 n343]] w345 fun e351 w352 =>
                 ∃ b353 : Bool,
                 (
                  e351 = Ending.returned (Value.bool b353)) ∧
                 Br (!b353)
                  (
                   R (Ending.returned (Value.bool false)) w352)
                  (
                   LetI (IntKind.i64.wrap (n84 + (1 : Int))) fun n354 =>
                   ∃ k355 : Nat,
                   (
                    k355 < k85) ∧
                   I81 k355 [Value.bool b139, Value.int IntKind.i64 n354] w352))))))
        (
         Ca Try.prog (25 : Nat) #[] w86 fun e356 w357 =>
         ∃ b358 : Bool,
         (
          e356 = Ending.returned (Value.bool b358)) ∧
         R (Ending.returned (Value.bool b358)) w357))))
theorem lawMSure_ok (n1 : Int) (n2 : Int) (n3 : Int) (p4 : Option Addr) (k5 : Nat) (k6 : Nat) (n7 : Int) (n8 : Int) (n9 : Int) (n10 : Int) (n11 : Int) (n12 : Int) (n13 : Int) (n14 : Int) (p15 : Option Addr) (k16 : Nat) (k17 : Nat) (w : World) (R : Ending → World → Prop) (h : lawMSure n1 n2 n3 p4 k5 k6 n7 n8 n9 n10 n11 n12 n13 n14 p15 k16 k17 w R) : Ca Try.prog 7 #[Value.agg #[Value.int IntKind.i64 n1, Value.int IntKind.i64 n2, Value.int IntKind.i64 n3, Value.slice p4 k5 k6, Value.int IntKind.i64 n7, Value.int IntKind.i64 n8, Value.int IntKind.i64 n9, Value.int IntKind.i64 n10, Value.int IntKind.i64 n11, Value.int IntKind.i64 n12, Value.int IntKind.i64 n13, Value.int IntKind.i64 n14], Value.slice p15 k16 k17] w R :=
  Ca.of_fvc (c := bodyOf Try.f7) (by kernel_rfl) Try.func7 (by kernel_rfl) [19] (Eq.mp (by kernel_rfl) h)

end Go.Proofs.Ytljipmhkpnigkaa
