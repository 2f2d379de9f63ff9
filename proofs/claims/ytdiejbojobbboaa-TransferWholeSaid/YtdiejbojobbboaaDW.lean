/- The verification conditions of this seat's functions, printed by a program; the kernel holds each against the loaded code. -/
import Derived.Test.YtdiejbojobbboaaProg
import Derived.KernelRfl
import Derived.Test.YtdiejbojobbboaaDT
set_option maxRecDepth 100000
namespace Go.Proofs.Ytdiejbojobbboaa
open Go Go.Vc Go.Proofs
def lawTWhole (s1 : ByteArray) (n2 : Int) (n3 : Int) (p4 : Option Addr) (k5 : Nat) (_k6 : Nat) (w : World) (R : Ending → World → Prop) : Prop :=
 LetA (Obj.cells #[Value.int IntKind.u8 n2, Value.int IntKind.u8 n3] (22 : Nat)) w fun b7 w8 =>
 Br (decide ((↑s1.size : Int) > (300 : Int)))
  (
   Ca Try.prog (6 : Nat) #[] w8 fun e9 w10 =>
   ∃ b11 : Bool,
   (
    e9 = Ending.returned (Value.bool b11)) ∧
   R (Ending.returned (Value.bool b11)) w10)
  (
   Br (decide ((↑k5 : Int) > (150 : Int)))
    (
     Ca Try.prog (6 : Nat) #[] w8 fun e12 w13 =>
     ∃ b14 : Bool,
     (
      e12 = Ending.returned (Value.bool b14)) ∧
     R (Ending.returned (Value.bool b14)) w13)
    (
     (
      (
       (0 : Int) ≤ (0 : Int)) ∧
      (0 : Int) < (↑(2 : Nat) : Int)) ∧
     ∃ n15 : Int,
     (
      w8.cell? { block := b7, off := (0 : Nat) } = some (Value.int IntKind.u8 n15)) ∧
     LetI (IntKind.i64.wrap n15) fun n16 =>
     (
      (60 : Int) ≠ (0 : Int)) ∧
     LetI (n16.tmod (60 : Int)) fun n17 =>
     LetI (IntKind.i64.wrap ((1 : Int) + n17)) fun n18 =>
     (
      (
       (0 : Int) ≤ (1 : Int)) ∧
      (1 : Int) < (↑(2 : Nat) : Int)) ∧
     ∃ n19 : Int,
     (
      w8.cell? { block := b7, off := (1 : Nat) } = some (Value.int IntKind.u8 n19)) ∧
     LetI (IntKind.i64.wrap n19) fun n20 =>
     (
      (16 : Int) ≠ (0 : Int)) ∧
     LetI (n20.tmod (16 : Int)) fun n21 =>
     LetI (IntKind.i64.wrap ((1 : Int) + n21)) fun n22 =>
     Ca Try.prog (8 : Nat) #[Value.int IntKind.i64 (7 : Int), Value.string s1, Value.int IntKind.i64 n18, Value.int IntKind.i64 n22] w8 fun e23 w24 =>
     ∃ p25 : Option Addr,
     ∃ n26 : Int,
     (
      e23 = Ending.returned (Value.tuple #[Value.pointer p25, Value.int IntKind.i64 n26])) ∧
     Ca Try.prog (7 : Nat) #[] w24 fun e27 w28 =>
     ∃ p29 : Option Addr,
     (
      e27 = Ending.returned (Value.pointer p29)) ∧
     Br (n26 != (0 : Int))
      (
       R (Ending.returned (Value.bool false)) w28)
      (
       ∃ I30 : Nat → List Value → World → Prop,
       (
        ∃ k31 : Nat,
        I30 k31 [Value.slice none (0 : Nat) (0 : Nat), Value.int IntKind.i64 (0 : Int), Value.bool false, Value.int IntKind.i64 (0 : Int), Value.slice none (0 : Nat) (0 : Nat), Value.int IntKind.i64 (0 : Int)] w28) ∧
       ∀ p32 : Option Addr,
       ∀ k33 : Nat,
       ∀ k34 : Nat,
       ∀ n35 : Int,
       ∀ b36 : Bool,
       ∀ n37 : Int,
       ∀ p38 : Option Addr,
       ∀ k39 : Nat,
       ∀ k40 : Nat,
       ∀ n41 : Int,
       ∀ k42 : Nat,
       ∀ w43 : World,
       (
        I30 k42 [Value.slice p32 k33 k34, Value.int IntKind.i64 n35, Value.bool b36, Value.int IntKind.i64 n37, Value.slice p38 k39 k40, Value.int IntKind.i64 n41] w43) →
       Br (decide (n41 < (↑k5 : Int)))
        (
         NilOk p4 fun a44 =>
         (
          (
           (0 : Int) ≤ n41) ∧
          n41 < (↑k5 : Int)) ∧
         (
          (
           (0 : Int) ≤ (1 : Int)) ∧
          (1 : Int) < (↑(2 : Nat) : Int)) ∧
         ∃ n45 : Int,
         (
          w43.cell? ((a44.add (n41.toNat * (2 : Nat))).add (1 : Nat)) = some (Value.int IntKind.u8 n45)) ∧
         LetI (IntKind.i64.wrap n45) fun n46 =>
         NilOk p4 fun a47 =>
         (
          (
           (0 : Int) ≤ n41) ∧
          n41 < (↑k5 : Int)) ∧
         (
          (
           (0 : Int) ≤ (0 : Int)) ∧
          (0 : Int) < (↑(2 : Nat) : Int)) ∧
         ∃ n48 : Int,
         (
          w43.cell? (a47.add (n41.toNat * (2 : Nat))) = some (Value.int IntKind.u8 n48)) ∧
         (
          (8 : Int) ≠ (0 : Int)) ∧
         LetI (n48.tmod (8 : Int)) fun n49 =>
         Br (n49 == (0 : Int))
          (
           Br (n49 == (0 : Int))
            (
             Ca Try.prog (9 : Nat) #[Value.pointer p25] w43 fun e50 w51 =>
             ∃ n52 : Int,
             ∃ n53 : Int,
             ∃ n54 : Int,
             ∃ s55 : ByteArray,
             ∃ b56 : Bool,
             (
              e50 = Ending.returned (Value.tuple #[Value.agg #[Value.int IntKind.i64 n52, Value.int IntKind.i64 n53, Value.int IntKind.i64 n54, Value.string s55], Value.bool b56])) ∧
             LetA (Obj.cells #[Value.int IntKind.i64 (0 : Int), Value.int IntKind.i64 (0 : Int), Value.int IntKind.i64 (0 : Int), Value.string { data := #[] }] (32 : Nat)) w51 fun b57 w58 =>
             (
              WrRow w58 { block := b57, off := (0 : Nat) } (0 : Nat) [Value.int IntKind.i64 n52, Value.int IntKind.i64 n53, Value.int IntKind.i64 n54, Value.string s55]) ∧
             LetW (setRow w58 { block := b57, off := (0 : Nat) } (0 : Nat) [Value.int IntKind.i64 n52, Value.int IntKind.i64 n53, Value.int IntKind.i64 n54, Value.string s55]) fun w59 =>
             Br (b56)
              (
               ∃ n60 : Int,
               ∃ n61 : Int,
               ∃ n62 : Int,
               ∃ s63 : ByteArray,
               (
                Row w59 { block := b57, off := (0 : Nat) } (0 : Nat) [Value.int IntKind.i64 n60, Value.int IntKind.i64 n61, Value.int IntKind.i64 n62, Value.string s63]) ∧
               ∃ n64 : Int,
               (
                w59.cell? { block := b57, off := (1 : Nat) } = some (Value.int IntKind.i64 n64)) ∧
               LetI (IntKind.i64.wrap (n64 + (1 : Int))) fun n65 =>
               LetI (max n35 n65) fun n66 =>
               LetA (Obj.cells #[Value.int IntKind.i64 n60, Value.int IntKind.i64 n61, Value.int IntKind.i64 n62, Value.string s63] (32 : Nat)) w59 fun b67 w68 =>
               (
                w68.cell? { block := b57, off := (1 : Nat) } = some (Value.int IntKind.i64 n64)) ∧
               RunsV Try.prog (Builtin.append_ #[(56 : Nat), (56 : Nat)] (56 : Nat) #[Value.slice p32 k33 k34, Value.slice (some { block := b67, off := (0 : Nat) }) (1 : Nat) (1 : Nat)]) w68 fun v69 w70 =>
               ∃ p71 : Option Addr,
               ∃ k72 : Nat,
               ∃ k73 : Nat,
               (
                v69 = Value.slice p71 k72 k73) ∧
               (
                w70.cell? { block := b57, off := (1 : Nat) } = some (Value.int IntKind.i64 n64)) ∧
               Ca Try.prog (12 : Nat) #[Value.pointer p29] w70 fun e74 w75 =>
               ∃ s76 : ByteArray,
               ∃ b77 : Bool,
               (
                e74 = Ending.returned (Value.tuple #[Value.string s76, Value.bool b77])) ∧
               Br (b77)
                (
                 Br (!s76.toList == s1.toList)
                  (
                   R (Ending.returned (Value.bool false)) w75)
                  (
                   Ca Try.prog (18 : Nat) #[Value.pointer p25] w75 fun e78 w79 =>
                   ∃ n80 : Int,
                   (
                    e78 = Ending.returned (Value.int IntKind.i64 n80)) ∧
                   Br (decide (n80 > n37))
                    (
                     R (Ending.returned (Value.bool false)) w79)
                    (
                     Ca Try.prog (13 : Nat) #[Value.pointer p25] w79 fun e81 w82 =>
                     ∃ b83 : Bool,
                     (
                      e81 = Ending.returned (Value.bool b83)) ∧
                     Br (b83)
                      (
                       Br (!b77)
                        (
                         R (Ending.returned (Value.bool false)) w82)
                        (
                         LetI (IntKind.i64.wrap (n41 + (1 : Int))) fun n84 =>
                         ∃ k85 : Nat,
                         (
                          k85 < k42) ∧
                         I30 k85 [Value.slice p71 k72 k73, Value.int IntKind.i64 n66, Value.bool b36, Value.int IntKind.i64 n37, Value.slice p38 k39 k40, Value.int IntKind.i64 n84] w82))
                      (
                       LetI (IntKind.i64.wrap (n41 + (1 : Int))) fun n86 =>
                       ∃ k87 : Nat,
                       (
                        k87 < k42) ∧
                       I30 k87 [Value.slice p71 k72 k73, Value.int IntKind.i64 n66, Value.bool b36, Value.int IntKind.i64 n37, Value.slice p38 k39 k40, Value.int IntKind.i64 n86] w82))))
                (
                 Ca Try.prog (18 : Nat) #[Value.pointer p25] w75 fun e88 w89 =>
                 ∃ n90 : Int,
                 (
                  e88 = Ending.returned (Value.int IntKind.i64 n90)) ∧
                 Br (decide (n90 > n37))
                  (
                   R (Ending.returned (Value.bool false)) w89)
                  (
                   Ca Try.prog (13 : Nat) #[Value.pointer p25] w89 fun e91 w92 =>
                   ∃ b93 : Bool,
                   (
                    e91 = Ending.returned (Value.bool b93)) ∧
                   Br (b93)
                    (
                     Br (!b77)
                      (
                       R (Ending.returned (Value.bool false)) w92)
                      (
                       LetI (IntKind.i64.wrap (n41 + (1 : Int))) fun n94 =>
                       ∃ k95 : Nat,
                       (
                        k95 < k42) ∧
                       I30 k95 [Value.slice p71 k72 k73, Value.int IntKind.i64 n66, Value.bool b36, Value.int IntKind.i64 n37, Value.slice p38 k39 k40, Value.int IntKind.i64 n94] w92))
                    (
                     LetI (IntKind.i64.wrap (n41 + (1 : Int))) fun n96 =>
                     ∃ k97 : Nat,
                     (
                      k97 < k42) ∧
                     I30 k97 [Value.slice p71 k72 k73, Value.int IntKind.i64 n66, Value.bool b36, Value.int IntKind.i64 n37, Value.slice p38 k39 k40, Value.int IntKind.i64 n96] w92))))
              (
               Ca Try.prog (12 : Nat) #[Value.pointer p29] w59 fun e98 w99 =>
               ∃ s100 : ByteArray,
               ∃ b101 : Bool,
               (
                e98 = Ending.returned (Value.tuple #[Value.string s100, Value.bool b101])) ∧
               Br (b101)
                (
                 Br (!s100.toList == s1.toList)
                  (
                   R (Ending.returned (Value.bool false)) w99)
                  (
                   Ca Try.prog (18 : Nat) #[Value.pointer p25] w99 fun e102 w103 =>
                   ∃ n104 : Int,
                   (
                    e102 = Ending.returned (Value.int IntKind.i64 n104)) ∧
                   Br (decide (n104 > n37))
                    (
                     R (Ending.returned (Value.bool false)) w103)
                    (
                     Ca Try.prog (13 : Nat) #[Value.pointer p25] w103 fun e105 w106 =>
                     ∃ b107 : Bool,
                     (
                      e105 = Ending.returned (Value.bool b107)) ∧
                     Br (b107)
                      (
                       Br (!b101)
                        (
                         R (Ending.returned (Value.bool false)) w106)
                        (
                         LetI (IntKind.i64.wrap (n41 + (1 : Int))) fun n108 =>
                         ∃ k109 : Nat,
                         (
                          k109 < k42) ∧
                         I30 k109 [Value.slice p32 k33 k34, Value.int IntKind.i64 n35, Value.bool b36, Value.int IntKind.i64 n37, Value.slice p38 k39 k40, Value.int IntKind.i64 n108] w106))
                      (
                       LetI (IntKind.i64.wrap (n41 + (1 : Int))) fun n110 =>
                       ∃ k111 : Nat,
                       (
                        k111 < k42) ∧
                       I30 k111 [Value.slice p32 k33 k34, Value.int IntKind.i64 n35, Value.bool b36, Value.int IntKind.i64 n37, Value.slice p38 k39 k40, Value.int IntKind.i64 n110] w106))))
                (
                 Ca Try.prog (18 : Nat) #[Value.pointer p25] w99 fun e112 w113 =>
                 ∃ n114 : Int,
                 (
                  e112 = Ending.returned (Value.int IntKind.i64 n114)) ∧
                 Br (decide (n114 > n37))
                  (
                   R (Ending.returned (Value.bool false)) w113)
                  (
                   Ca Try.prog (13 : Nat) #[Value.pointer p25] w113 fun e115 w116 =>
                   ∃ b117 : Bool,
                   (
                    e115 = Ending.returned (Value.bool b117)) ∧
                   Br (b117)
                    (
                     Br (!b101)
                      (
                       R (Ending.returned (Value.bool false)) w116)
                      (
                       LetI (IntKind.i64.wrap (n41 + (1 : Int))) fun n118 =>
                       ∃ k119 : Nat,
                       (
                        k119 < k42) ∧
                       I30 k119 [Value.slice p32 k33 k34, Value.int IntKind.i64 n35, Value.bool b36, Value.int IntKind.i64 n37, Value.slice p38 k39 k40, Value.int IntKind.i64 n118] w116))
                    (
                     LetI (IntKind.i64.wrap (n41 + (1 : Int))) fun n120 =>
                     ∃ k121 : Nat,
                     (
                      k121 < k42) ∧
                     I30 k121 [Value.slice p32 k33 k34, Value.int IntKind.i64 n35, Value.bool b36, Value.int IntKind.i64 n37, Value.slice p38 k39 k40, Value.int IntKind.i64 n120] w116)))))
            (
             Br (n49 == (3 : Int))
              (
               Br (n49 == (3 : Int))
                (
                 Br (decide ((↑k33 : Int) > (0 : Int)))
                  (
                   (
                    (↑k33 : Int) ≠ (0 : Int)) ∧
                   LetI (n46.tmod (↑k33 : Int)) fun n122 =>
                   NilOk p32 fun a123 =>
                   (
                    (
                     (0 : Int) ≤ n122) ∧
                    n122 < (↑k33 : Int)) ∧
                   ∃ n124 : Int,
                   ∃ n125 : Int,
                   ∃ n126 : Int,
                   ∃ s127 : ByteArray,
                   (
                    Row w43 (a123.add (n122.toNat * (4 : Nat))) (0 : Nat) [Value.int IntKind.i64 n124, Value.int IntKind.i64 n125, Value.int IntKind.i64 n126, Value.string s127]) ∧
                   Ca Try.prog (10 : Nat) #[Value.pointer p29, Value.agg #[Value.int IntKind.i64 n124, Value.int IntKind.i64 n125, Value.int IntKind.i64 n126, Value.string s127]] w43 fun e128 w129 =>
                   ∃ n130 : Int,
                   ∃ n131 : Int,
                   (
                    e128 = Ending.returned (Value.tuple #[Value.int IntKind.i64 n130, Value.int IntKind.i64 n131])) ∧
                   Br (n130 != (7 : Int))
                    (
                     R (Ending.returned (Value.bool false)) w129)
                    (
                     Br (decide (n131 < n37))
                      (
                       R (Ending.returned (Value.bool false)) w129)
                      (
                       LetI (IntKind.i64.wrap (n37 + (1 : Int))) fun n132 =>
                       Br (decide (n131 > n132))
                        (
                         R (Ending.returned (Value.bool false)) w129)
                        (
                         Br (decide (n131 > n35))
                          (
                           R (Ending.returned (Value.bool false)) w129)
                          (
                           LetA (Obj.cells #[Value.int IntKind.i64 n131] (3 : Nat)) w129 fun b133 w134 =>
                           RunsV Try.prog (Builtin.append_ #[(57 : Nat), (57 : Nat)] (57 : Nat) #[Value.slice p38 k39 k40, Value.slice (some { block := b133, off := (0 : Nat) }) (1 : Nat) (1 : Nat)]) w134 fun v135 w136 =>
                           ∃ p137 : Option Addr,
                           ∃ k138 : Nat,
                           ∃ k139 : Nat,
                           (
                            v135 = Value.slice p137 k138 k139) ∧
                           Ca Try.prog (12 : Nat) #[Value.pointer p29] w136 fun e140 w141 =>
                           ∃ s142 : ByteArray,
                           ∃ b143 : Bool,
                           (
                            e140 = Ending.returned (Value.tuple #[Value.string s142, Value.bool b143])) ∧
                           Br (b143)
                            (
                             Br (!s142.toList == s1.toList)
                              (
                               R (Ending.returned (Value.bool false)) w141)
                              (
                               Ca Try.prog (18 : Nat) #[Value.pointer p25] w141 fun e144 w145 =>
                               ∃ n146 : Int,
                               (
                                e144 = Ending.returned (Value.int IntKind.i64 n146)) ∧
                               Br (decide (n146 > n131))
                                (
                                 R (Ending.returned (Value.bool false)) w145)
                                (
                                 Ca Try.prog (13 : Nat) #[Value.pointer p25] w145 fun e147 w148 =>
                                 ∃ b149 : Bool,
                                 (
                                  e147 = Ending.returned (Value.bool b149)) ∧
                                 Br (b149)
                                  (
                                   Br (!b143)
                                    (
                                     R (Ending.returned (Value.bool false)) w148)
                                    (
                                     LetI (IntKind.i64.wrap (n41 + (1 : Int))) fun n150 =>
                                     ∃ k151 : Nat,
                                     (
                                      k151 < k42) ∧
                                     I30 k151 [Value.slice p32 k33 k34, Value.int IntKind.i64 n35, Value.bool b36, Value.int IntKind.i64 n131, Value.slice p137 k138 k139, Value.int IntKind.i64 n150] w148))
                                  (
                                   LetI (IntKind.i64.wrap (n41 + (1 : Int))) fun n152 =>
                                   ∃ k153 : Nat,
                                   (
                                    k153 < k42) ∧
                                   I30 k153 [Value.slice p32 k33 k34, Value.int IntKind.i64 n35, Value.bool b36, Value.int IntKind.i64 n131, Value.slice p137 k138 k139, Value.int IntKind.i64 n152] w148))))
                            (
                             Ca Try.prog (18 : Nat) #[Value.pointer p25] w141 fun e154 w155 =>
                             ∃ n156 : Int,
                             (
                              e154 = Ending.returned (Value.int IntKind.i64 n156)) ∧
                             Br (decide (n156 > n131))
                              (
                               R (Ending.returned (Value.bool false)) w155)
                              (
                               Ca Try.prog (13 : Nat) #[Value.pointer p25] w155 fun e157 w158 =>
                               ∃ b159 : Bool,
                               (
                                e157 = Ending.returned (Value.bool b159)) ∧
                               Br (b159)
                                (
                                 Br (!b143)
                                  (
                                   R (Ending.returned (Value.bool false)) w158)
                                  (
                                   LetI (IntKind.i64.wrap (n41 + (1 : Int))) fun n160 =>
                                   ∃ k161 : Nat,
                                   (
                                    k161 < k42) ∧
                                   I30 k161 [Value.slice p32 k33 k34, Value.int IntKind.i64 n35, Value.bool b36, Value.int IntKind.i64 n131, Value.slice p137 k138 k139, Value.int IntKind.i64 n160] w158))
                                (
                                 LetI (IntKind.i64.wrap (n41 + (1 : Int))) fun n162 =>
                                 ∃ k163 : Nat,
                                 (
                                  k163 < k42) ∧
                                 I30 k163 [Value.slice p32 k33 k34, Value.int IntKind.i64 n35, Value.bool b36, Value.int IntKind.i64 n131, Value.slice p137 k138 k139, Value.int IntKind.i64 n162] w158))))))))
                  (
                   Ca Try.prog (12 : Nat) #[Value.pointer p29] w43 fun e164 w165 =>
                   ∃ s166 : ByteArray,
                   ∃ b167 : Bool,
                   (
                    e164 = Ending.returned (Value.tuple #[Value.string s166, Value.bool b167])) ∧
                   Br (b167)
                    (
                     Br (!s166.toList == s1.toList)
                      (
                       R (Ending.returned (Value.bool false)) w165)
                      (
                       Ca Try.prog (18 : Nat) #[Value.pointer p25] w165 fun e168 w169 =>
                       ∃ n170 : Int,
                       (
                        e168 = Ending.returned (Value.int IntKind.i64 n170)) ∧
                       Br (decide (n170 > n37))
                        (
                         R (Ending.returned (Value.bool false)) w169)
                        (
                         Ca Try.prog (13 : Nat) #[Value.pointer p25] w169 fun e171 w172 =>
                         ∃ b173 : Bool,
                         (
                          e171 = Ending.returned (Value.bool b173)) ∧
                         Br (b173)
                          (
                           Br (!b167)
                            (
                             R (Ending.returned (Value.bool false)) w172)
                            (
                             LetI (IntKind.i64.wrap (n41 + (1 : Int))) fun n174 =>
                             ∃ k175 : Nat,
                             (
                              k175 < k42) ∧
                             I30 k175 [Value.slice p32 k33 k34, Value.int IntKind.i64 n35, Value.bool b36, Value.int IntKind.i64 n37, Value.slice p38 k39 k40, Value.int IntKind.i64 n174] w172))
                          (
                           LetI (IntKind.i64.wrap (n41 + (1 : Int))) fun n176 =>
                           ∃ k177 : Nat,
                           (
                            k177 < k42) ∧
                           I30 k177 [Value.slice p32 k33 k34, Value.int IntKind.i64 n35, Value.bool b36, Value.int IntKind.i64 n37, Value.slice p38 k39 k40, Value.int IntKind.i64 n176] w172))))
                    (
                     Ca Try.prog (18 : Nat) #[Value.pointer p25] w165 fun e178 w179 =>
                     ∃ n180 : Int,
                     (
                      e178 = Ending.returned (Value.int IntKind.i64 n180)) ∧
                     Br (decide (n180 > n37))
                      (
                       R (Ending.returned (Value.bool false)) w179)
                      (
                       Ca Try.prog (13 : Nat) #[Value.pointer p25] w179 fun e181 w182 =>
                       ∃ b183 : Bool,
                       (
                        e181 = Ending.returned (Value.bool b183)) ∧
                       Br (b183)
                        (
                         Br (!b167)
                          (
                           R (Ending.returned (Value.bool false)) w182)
                          (
                           LetI (IntKind.i64.wrap (n41 + (1 : Int))) fun n184 =>
                           ∃ k185 : Nat,
                           (
                            k185 < k42) ∧
                           I30 k185 [Value.slice p32 k33 k34, Value.int IntKind.i64 n35, Value.bool b36, Value.int IntKind.i64 n37, Value.slice p38 k39 k40, Value.int IntKind.i64 n184] w182))
                        (
                         LetI (IntKind.i64.wrap (n41 + (1 : Int))) fun n186 =>
                         ∃ k187 : Nat,
                         (
                          k187 < k42) ∧
                         I30 k187 [Value.slice p32 k33 k34, Value.int IntKind.i64 n35, Value.bool b36, Value.int IntKind.i64 n37, Value.slice p38 k39 k40, Value.int IntKind.i64 n186] w182)))))
                (
                 Br (n49 == (5 : Int))
                  (
                   Br (decide ((↑k33 : Int) > (0 : Int)))
                    (
                     (
                      (↑k33 : Int) ≠ (0 : Int)) ∧
                     LetI (n46.tmod (↑k33 : Int)) fun n188 =>
                     (
                      (
                       (0 : Int) ≤ (0 : Int)) ∧
                      (
                       (0 : Int) ≤ n188) ∧
                      (
                       n188 ≤ (↑k34 : Int)) ∧
                      (
                       (↑k34 : Int) ≤ (↑k34 : Int)) ∧
                      (
                       (
                        false = true) →
                       true = true)) ∧
                     LetI (IntKind.i64.wrap (n188 + (1 : Int))) fun n189 =>
                     (
                      (
                       (0 : Int) ≤ n189) ∧
                      (
                       n189 ≤ (↑k33 : Int)) ∧
                      (
                       (↑k33 : Int) ≤ (↑k34 : Int)) ∧
                      (
                       (↑k34 : Int) ≤ (↑k34 : Int)) ∧
                      (
                       (
                        false = true) →
                       false = true)) ∧
                     RunsV Try.prog (Builtin.append_ #[(56 : Nat), (56 : Nat)] (56 : Nat) #[Value.slice none (0 : Nat) (0 : Nat), Value.slice (if (↑k34 : Int).toNat = Int.toNat (0 : Int) then p32 else Option.map (fun x => x.add (Int.toNat (0 : Int) * sizeT Try.prog (32 : Nat))) p32) (n188.toNat - (0 : Nat)) ((↑k34 : Int).toNat - (0 : Nat))]) w43 fun v190 w191 =>
                     ∃ p192 : Option Addr,
                     ∃ k193 : Nat,
                     ∃ k194 : Nat,
                     (
                      v190 = Value.slice p192 k193 k194) ∧
                     RunsV Try.prog (Builtin.append_ #[(56 : Nat), (56 : Nat)] (56 : Nat) #[Value.slice p192 k193 k194, Value.slice (if (↑k34 : Int).toNat = n189.toNat then p32 else Option.map (fun x => x.add (n189.toNat * sizeT Try.prog (32 : Nat))) p32) ((↑k33 : Int).toNat - n189.toNat) ((↑k34 : Int).toNat - n189.toNat)]) w191 fun v195 w196 =>
                     ∃ p197 : Option Addr,
                     ∃ k198 : Nat,
                     ∃ k199 : Nat,
                     (
                      v195 = Value.slice p197 k198 k199) ∧
                     Ca Try.prog (12 : Nat) #[Value.pointer p29] w196 fun e200 w201 =>
                     ∃ s202 : ByteArray,
                     ∃ b203 : Bool,
                     (
                      e200 = Ending.returned (Value.tuple #[Value.string s202, Value.bool b203])) ∧
                     Br (b203)
                      (
                       Br (!s202.toList == s1.toList)
                        (
                         R (Ending.returned (Value.bool false)) w201)
                        (
                         Ca Try.prog (18 : Nat) #[Value.pointer p25] w201 fun e204 w205 =>
                         ∃ n206 : Int,
                         (
                          e204 = Ending.returned (Value.int IntKind.i64 n206)) ∧
                         Br (decide (n206 > n37))
                          (
                           R (Ending.returned (Value.bool false)) w205)
                          (
                           Ca Try.prog (13 : Nat) #[Value.pointer p25] w205 fun e207 w208 =>
                           ∃ b209 : Bool,
                           (
                            e207 = Ending.returned (Value.bool b209)) ∧
                           Br (b209)
                            (
                             Br (!b203)
                              (
                               R (Ending.returned (Value.bool false)) w208)
                              (
                               LetI (IntKind.i64.wrap (n41 + (1 : Int))) fun n210 =>
                               ∃ k211 : Nat,
                               (
                                k211 < k42) ∧
                               I30 k211 [Value.slice p197 k198 k199, Value.int IntKind.i64 n35, Value.bool b36, Value.int IntKind.i64 n37, Value.slice p38 k39 k40, Value.int IntKind.i64 n210] w208))
                            (
                             LetI (IntKind.i64.wrap (n41 + (1 : Int))) fun n212 =>
                             ∃ k213 : Nat,
                             (
                              k213 < k42) ∧
                             I30 k213 [Value.slice p197 k198 k199, Value.int IntKind.i64 n35, Value.bool b36, Value.int IntKind.i64 n37, Value.slice p38 k39 k40, Value.int IntKind.i64 n212] w208))))
                      (
                       Ca Try.prog (18 : Nat) #[Value.pointer p25] w201 fun e214 w215 =>
                       ∃ n216 : Int,
                       (
                        e214 = Ending.returned (Value.int IntKind.i64 n216)) ∧
                       Br (decide (n216 > n37))
                        (
                         R (Ending.returned (Value.bool false)) w215)
                        (
                         Ca Try.prog (13 : Nat) #[Value.pointer p25] w215 fun e217 w218 =>
                         ∃ b219 : Bool,
                         (
                          e217 = Ending.returned (Value.bool b219)) ∧
                         Br (b219)
                          (
                           Br (!b203)
                            (
                             R (Ending.returned (Value.bool false)) w218)
                            (
                             LetI (IntKind.i64.wrap (n41 + (1 : Int))) fun n220 =>
                             ∃ k221 : Nat,
                             (
                              k221 < k42) ∧
                             I30 k221 [Value.slice p197 k198 k199, Value.int IntKind.i64 n35, Value.bool b36, Value.int IntKind.i64 n37, Value.slice p38 k39 k40, Value.int IntKind.i64 n220] w218))
                          (
                           LetI (IntKind.i64.wrap (n41 + (1 : Int))) fun n222 =>
                           ∃ k223 : Nat,
                           (
                            k223 < k42) ∧
                           I30 k223 [Value.slice p197 k198 k199, Value.int IntKind.i64 n35, Value.bool b36, Value.int IntKind.i64 n37, Value.slice p38 k39 k40, Value.int IntKind.i64 n222] w218))))
                    (
                     Ca Try.prog (12 : Nat) #[Value.pointer p29] w43 fun e224 w225 =>
                     ∃ s226 : ByteArray,
                     ∃ b227 : Bool,
                     (
                      e224 = Ending.returned (Value.tuple #[Value.string s226, Value.bool b227])) ∧
                     Br (b227)
                      (
                       Br (!s226.toList == s1.toList)
                        (
                         R (Ending.returned (Value.bool false)) w225)
                        (
                         Ca Try.prog (18 : Nat) #[Value.pointer p25] w225 fun e228 w229 =>
                         ∃ n230 : Int,
                         (
                          e228 = Ending.returned (Value.int IntKind.i64 n230)) ∧
                         Br (decide (n230 > n37))
                          (
                           R (Ending.returned (Value.bool false)) w229)
                          (
                           Ca Try.prog (13 : Nat) #[Value.pointer p25] w229 fun e231 w232 =>
                           ∃ b233 : Bool,
                           (
                            e231 = Ending.returned (Value.bool b233)) ∧
                           Br (b233)
                            (
                             Br (!b227)
                              (
                               R (Ending.returned (Value.bool false)) w232)
                              (
                               LetI (IntKind.i64.wrap (n41 + (1 : Int))) fun n234 =>
                               ∃ k235 : Nat,
                               (
                                k235 < k42) ∧
                               I30 k235 [Value.slice p32 k33 k34, Value.int IntKind.i64 n35, Value.bool b36, Value.int IntKind.i64 n37, Value.slice p38 k39 k40, Value.int IntKind.i64 n234] w232))
                            (
                             LetI (IntKind.i64.wrap (n41 + (1 : Int))) fun n236 =>
                             ∃ k237 : Nat,
                             (
                              k237 < k42) ∧
                             I30 k237 [Value.slice p32 k33 k34, Value.int IntKind.i64 n35, Value.bool b36, Value.int IntKind.i64 n37, Value.slice p38 k39 k40, Value.int IntKind.i64 n236] w232))))
                      (
                       Ca Try.prog (18 : Nat) #[Value.pointer p25] w225 fun e238 w239 =>
                       ∃ n240 : Int,
                       (
                        e238 = Ending.returned (Value.int IntKind.i64 n240)) ∧
                       Br (decide (n240 > n37))
                        (
                         R (Ending.returned (Value.bool false)) w239)
                        (
                         Ca Try.prog (13 : Nat) #[Value.pointer p25] w239 fun e241 w242 =>
                         ∃ b243 : Bool,
                         (
                          e241 = Ending.returned (Value.bool b243)) ∧
                         Br (b243)
                          (
                           Br (!b227)
                            (
                             R (Ending.returned (Value.bool false)) w242)
                            (
                             LetI (IntKind.i64.wrap (n41 + (1 : Int))) fun n244 =>
                             ∃ k245 : Nat,
                             (
                              k245 < k42) ∧
                             I30 k245 [Value.slice p32 k33 k34, Value.int IntKind.i64 n35, Value.bool b36, Value.int IntKind.i64 n37, Value.slice p38 k39 k40, Value.int IntKind.i64 n244] w242))
                          (
                           LetI (IntKind.i64.wrap (n41 + (1 : Int))) fun n246 =>
                           ∃ k247 : Nat,
                           (
                            k247 < k42) ∧
                           I30 k247 [Value.slice p32 k33 k34, Value.int IntKind.i64 n35, Value.bool b36, Value.int IntKind.i64 n37, Value.slice p38 k39 k40, Value.int IntKind.i64 n246] w242)))))
                  (
                   Br (n49 == (6 : Int))
                    (
                     Br (decide ((↑k39 : Int) > (0 : Int)))
                      (
                       (
                        (↑k39 : Int) ≠ (0 : Int)) ∧
                       LetI (n46.tmod (↑k39 : Int)) fun n248 =>
                       NilOk p38 fun a249 =>
                       (
                        (
                         (0 : Int) ≤ n248) ∧
                        n248 < (↑k39 : Int)) ∧
                       ∃ n250 : Int,
                       (
                        w43.cell? (a249.add (n248.toNat * (1 : Nat))) = some (Value.int IntKind.i64 n250)) ∧
                       Ca Try.prog (11 : Nat) #[Value.pointer p25, Value.int IntKind.i64 (7 : Int), Value.int IntKind.i64 n250] w43 fun e251 w252 =>
                       ∃ n253 : Int,
                       (
                        e251 = Ending.returned (Value.int IntKind.i64 n253)) ∧
                       Br (n253 != (0 : Int))
                        (
                         R (Ending.returned (Value.bool false)) w252)
                        (
                         Ca Try.prog (12 : Nat) #[Value.pointer p29] w252 fun e254 w255 =>
                         ∃ s256 : ByteArray,
                         ∃ b257 : Bool,
                         (
                          e254 = Ending.returned (Value.tuple #[Value.string s256, Value.bool b257])) ∧
                         Br (b257)
                          (
                           Br (!s256.toList == s1.toList)
                            (
                             R (Ending.returned (Value.bool false)) w255)
                            (
                             Ca Try.prog (18 : Nat) #[Value.pointer p25] w255 fun e258 w259 =>
                             ∃ n260 : Int,
                             (
                              e258 = Ending.returned (Value.int IntKind.i64 n260)) ∧
                             Br (decide (n260 > n37))
                              (
                               R (Ending.returned (Value.bool false)) w259)
                              (
                               Ca Try.prog (13 : Nat) #[Value.pointer p25] w259 fun e261 w262 =>
                               ∃ b263 : Bool,
                               (
                                e261 = Ending.returned (Value.bool b263)) ∧
                               Br (b263)
                                (
                                 Br (!b257)
                                  (
                                   R (Ending.returned (Value.bool false)) w262)
                                  (
                                   LetI (IntKind.i64.wrap (n41 + (1 : Int))) fun n264 =>
                                   ∃ k265 : Nat,
                                   (
                                    k265 < k42) ∧
                                   I30 k265 [Value.slice p32 k33 k34, Value.int IntKind.i64 n35, Value.bool b36, Value.int IntKind.i64 n37, Value.slice p38 k39 k40, Value.int IntKind.i64 n264] w262))
                                (
                                 LetI (IntKind.i64.wrap (n41 + (1 : Int))) fun n266 =>
                                 ∃ k267 : Nat,
                                 (
                                  k267 < k42) ∧
                                 I30 k267 [Value.slice p32 k33 k34, Value.int IntKind.i64 n35, Value.bool b36, Value.int IntKind.i64 n37, Value.slice p38 k39 k40, Value.int IntKind.i64 n266] w262))))
                          (
                           Ca Try.prog (18 : Nat) #[Value.pointer p25] w255 fun e268 w269 =>
                           ∃ n270 : Int,
                           (
                            e268 = Ending.returned (Value.int IntKind.i64 n270)) ∧
                           Br (decide (n270 > n37))
                            (
                             R (Ending.returned (Value.bool false)) w269)
                            (
                             Ca Try.prog (13 : Nat) #[Value.pointer p25] w269 fun e271 w272 =>
                             ∃ b273 : Bool,
                             (
                              e271 = Ending.returned (Value.bool b273)) ∧
                             Br (b273)
                              (
                               Br (!b257)
                                (
                                 R (Ending.returned (Value.bool false)) w272)
                                (
                                 LetI (IntKind.i64.wrap (n41 + (1 : Int))) fun n274 =>
                                 ∃ k275 : Nat,
                                 (
                                  k275 < k42) ∧
                                 I30 k275 [Value.slice p32 k33 k34, Value.int IntKind.i64 n35, Value.bool b36, Value.int IntKind.i64 n37, Value.slice p38 k39 k40, Value.int IntKind.i64 n274] w272))
                              (
                               LetI (IntKind.i64.wrap (n41 + (1 : Int))) fun n276 =>
                               ∃ k277 : Nat,
                               (
                                k277 < k42) ∧
                               I30 k277 [Value.slice p32 k33 k34, Value.int IntKind.i64 n35, Value.bool b36, Value.int IntKind.i64 n37, Value.slice p38 k39 k40, Value.int IntKind.i64 n276] w272)))))
                      (
                       Ca Try.prog (12 : Nat) #[Value.pointer p29] w43 fun e278 w279 =>
                       ∃ s280 : ByteArray,
                       ∃ b281 : Bool,
                       (
                        e278 = Ending.returned (Value.tuple #[Value.string s280, Value.bool b281])) ∧
                       Br (b281)
                        (
                         Br (!s280.toList == s1.toList)
                          (
                           R (Ending.returned (Value.bool false)) w279)
                          (
                           Ca Try.prog (18 : Nat) #[Value.pointer p25] w279 fun e282 w283 =>
                           ∃ n284 : Int,
                           (
                            e282 = Ending.returned (Value.int IntKind.i64 n284)) ∧
                           Br (decide (n284 > n37))
                            (
                             R (Ending.returned (Value.bool false)) w283)
                            (
                             Ca Try.prog (13 : Nat) #[Value.pointer p25] w283 fun e285 w286 =>
                             ∃ b287 : Bool,
                             (
                              e285 = Ending.returned (Value.bool b287)) ∧
                             Br (b287)
                              (
                               Br (!b281)
                                (
                                 R (Ending.returned (Value.bool false)) w286)
                                (
                                 LetI (IntKind.i64.wrap (n41 + (1 : Int))) fun n288 =>
                                 ∃ k289 : Nat,
                                 (
                                  k289 < k42) ∧
                                 I30 k289 [Value.slice p32 k33 k34, Value.int IntKind.i64 n35, Value.bool b36, Value.int IntKind.i64 n37, Value.slice p38 k39 k40, Value.int IntKind.i64 n288] w286))
                              (
                               LetI (IntKind.i64.wrap (n41 + (1 : Int))) fun n290 =>
                               ∃ k291 : Nat,
                               (
                                k291 < k42) ∧
                               I30 k291 [Value.slice p32 k33 k34, Value.int IntKind.i64 n35, Value.bool b36, Value.int IntKind.i64 n37, Value.slice p38 k39 k40, Value.int IntKind.i64 n290] w286))))
                        (
                         Ca Try.prog (18 : Nat) #[Value.pointer p25] w279 fun e292 w293 =>
                         ∃ n294 : Int,
                         (
                          e292 = Ending.returned (Value.int IntKind.i64 n294)) ∧
                         Br (decide (n294 > n37))
                          (
                           R (Ending.returned (Value.bool false)) w293)
                          (
                           Ca Try.prog (13 : Nat) #[Value.pointer p25] w293 fun e295 w296 =>
                           ∃ b297 : Bool,
                           (
                            e295 = Ending.returned (Value.bool b297)) ∧
                           Br (b297)
                            (
                             Br (!b281)
                              (
                               R (Ending.returned (Value.bool false)) w296)
                              (
                               LetI (IntKind.i64.wrap (n41 + (1 : Int))) fun n298 =>
                               ∃ k299 : Nat,
                               (
                                k299 < k42) ∧
                               I30 k299 [Value.slice p32 k33 k34, Value.int IntKind.i64 n35, Value.bool b36, Value.int IntKind.i64 n37, Value.slice p38 k39 k40, Value.int IntKind.i64 n298] w296))
                            (
                             LetI (IntKind.i64.wrap (n41 + (1 : Int))) fun n300 =>
                             ∃ k301 : Nat,
                             (
                              k301 < k42) ∧
                             I30 k301 [Value.slice p32 k33 k34, Value.int IntKind.i64 n35, Value.bool b36, Value.int IntKind.i64 n37, Value.slice p38 k39 k40, Value.int IntKind.i64 n300] w296)))))
                    (
                     Ca Try.prog (16 : Nat) #[Value.pointer p25] w43 fun e302 w303 =>
                     (
                      e302 = Ending.returned (Value.tuple #[])) ∧
                     Ca Try.prog (12 : Nat) #[Value.pointer p29] w303 fun e304 w305 =>
                     ∃ s306 : ByteArray,
                     ∃ b307 : Bool,
                     (
                      e304 = Ending.returned (Value.tuple #[Value.string s306, Value.bool b307])) ∧
                     Br (b307)
                      (
                       Br (!s306.toList == s1.toList)
                        (
                         R (Ending.returned (Value.bool false)) w305)
                        (
                         Ca Try.prog (18 : Nat) #[Value.pointer p25] w305 fun e308 w309 =>
                         ∃ n310 : Int,
                         (
                          e308 = Ending.returned (Value.int IntKind.i64 n310)) ∧
                         Br (decide (n310 > n37))
                          (
                           R (Ending.returned (Value.bool false)) w309)
                          (
                           Ca Try.prog (13 : Nat) #[Value.pointer p25] w309 fun e311 w312 =>
                           ∃ b313 : Bool,
                           (
                            e311 = Ending.returned (Value.bool b313)) ∧
                           Br (b313)
                            (
                             Br (!b307)
                              (
                               R (Ending.returned (Value.bool false)) w312)
                              (
                               LetI (IntKind.i64.wrap (n41 + (1 : Int))) fun n314 =>
                               ∃ k315 : Nat,
                               (
                                k315 < k42) ∧
                               I30 k315 [Value.slice p32 k33 k34, Value.int IntKind.i64 n35, Value.bool b36, Value.int IntKind.i64 n37, Value.slice p38 k39 k40, Value.int IntKind.i64 n314] w312))
                            (
                             LetI (IntKind.i64.wrap (n41 + (1 : Int))) fun n316 =>
                             ∃ k317 : Nat,
                             (
                              k317 < k42) ∧
                             I30 k317 [Value.slice p32 k33 k34, Value.int IntKind.i64 n35, Value.bool b36, Value.int IntKind.i64 n37, Value.slice p38 k39 k40, Value.int IntKind.i64 n316] w312))))
                      (
                       Ca Try.prog (18 : Nat) #[Value.pointer p25] w305 fun e318 w319 =>
                       ∃ n320 : Int,
                       (
                        e318 = Ending.returned (Value.int IntKind.i64 n320)) ∧
                       Br (decide (n320 > n37))
                        (
                         R (Ending.returned (Value.bool false)) w319)
                        (
                         Ca Try.prog (13 : Nat) #[Value.pointer p25] w319 fun e321 w322 =>
                         ∃ b323 : Bool,
                         (
                          e321 = Ending.returned (Value.bool b323)) ∧
                         Br (b323)
                          (
                           Br (!b307)
                            (
                             R (Ending.returned (Value.bool false)) w322)
                            (
                             LetI (IntKind.i64.wrap (n41 + (1 : Int))) fun n324 =>
                             ∃ k325 : Nat,
                             (
                              k325 < k42) ∧
                             I30 k325 [Value.slice p32 k33 k34, Value.int IntKind.i64 n35, Value.bool b36, Value.int IntKind.i64 n37, Value.slice p38 k39 k40, Value.int IntKind.i64 n324] w322))
                          (
                           LetI (IntKind.i64.wrap (n41 + (1 : Int))) fun n326 =>
                           ∃ k327 : Nat,
                           (
                            k327 < k42) ∧
                           I30 k327 [Value.slice p32 k33 k34, Value.int IntKind.i64 n35, Value.bool b36, Value.int IntKind.i64 n37, Value.slice p38 k39 k40, Value.int IntKind.i64 n326] w322)))))))
              (
               Br (n49 == (4 : Int))
                (
                 Br (decide ((↑k33 : Int) > (0 : Int)))
                  (
                   (
                    (↑k33 : Int) ≠ (0 : Int)) ∧
                   LetI (n46.tmod (↑k33 : Int)) fun n328 =>
                   NilOk p32 fun a329 =>
                   (
                    (
                     (0 : Int) ≤ n328) ∧
                    n328 < (↑k33 : Int)) ∧
                   ∃ n330 : Int,
                   ∃ n331 : Int,
                   ∃ n332 : Int,
                   ∃ s333 : ByteArray,
                   (
                    Row w43 (a329.add (n328.toNat * (4 : Nat))) (0 : Nat) [Value.int IntKind.i64 n330, Value.int IntKind.i64 n331, Value.int IntKind.i64 n332, Value.string s333]) ∧
                   Ca Try.prog (10 : Nat) #[Value.pointer p29, Value.agg #[Value.int IntKind.i64 n330, Value.int IntKind.i64 n331, Value.int IntKind.i64 n332, Value.string s333]] w43 fun e334 w335 =>
                   ∃ n336 : Int,
                   ∃ n337 : Int,
                   (
                    e334 = Ending.returned (Value.tuple #[Value.int IntKind.i64 n336, Value.int IntKind.i64 n337])) ∧
                   Br (n336 != (7 : Int))
                    (
                     R (Ending.returned (Value.bool false)) w335)
                    (
                     Br (decide (n337 < n37))
                      (
                       R (Ending.returned (Value.bool false)) w335)
                      (
                       LetI (IntKind.i64.wrap (n37 + (1 : Int))) fun n338 =>
                       Br (decide (n337 > n338))
                        (
                         R (Ending.returned (Value.bool false)) w335)
                        (
                         Br (decide (n337 > n35))
                          (
                           R (Ending.returned (Value.bool false)) w335)
                          (
                           LetA (Obj.cells #[Value.int IntKind.i64 n337] (3 : Nat)) w335 fun b339 w340 =>
                           RunsV Try.prog (Builtin.append_ #[(57 : Nat), (57 : Nat)] (57 : Nat) #[Value.slice p38 k39 k40, Value.slice (some { block := b339, off := (0 : Nat) }) (1 : Nat) (1 : Nat)]) w340 fun v341 w342 =>
                           ∃ p343 : Option Addr,
                           ∃ k344 : Nat,
                           ∃ k345 : Nat,
                           (
                            v341 = Value.slice p343 k344 k345) ∧
                           Ca Try.prog (12 : Nat) #[Value.pointer p29] w342 fun e346 w347 =>
                           ∃ s348 : ByteArray,
                           ∃ b349 : Bool,
                           (
                            e346 = Ending.returned (Value.tuple #[Value.string s348, Value.bool b349])) ∧
                           Br (b349)
                            (
                             Br (!s348.toList == s1.toList)
                              (
                               R (Ending.returned (Value.bool false)) w347)
                              (
                               Ca Try.prog (18 : Nat) #[Value.pointer p25] w347 fun e350 w351 =>
                               ∃ n352 : Int,
                               (
                                e350 = Ending.returned (Value.int IntKind.i64 n352)) ∧
                               Br (decide (n352 > n337))
                                (
                                 R (Ending.returned (Value.bool false)) w351)
                                (
                                 Ca Try.prog (13 : Nat) #[Value.pointer p25] w351 fun e353 w354 =>
                                 ∃ b355 : Bool,
                                 (
                                  e353 = Ending.returned (Value.bool b355)) ∧
                                 Br (b355)
                                  (
                                   Br (!b349)
                                    (
                                     R (Ending.returned (Value.bool false)) w354)
                                    (
                                     LetI (IntKind.i64.wrap (n41 + (1 : Int))) fun n356 =>
                                     ∃ k357 : Nat,
                                     (
                                      k357 < k42) ∧
                                     I30 k357 [Value.slice p32 k33 k34, Value.int IntKind.i64 n35, Value.bool b36, Value.int IntKind.i64 n337, Value.slice p343 k344 k345, Value.int IntKind.i64 n356] w354))
                                  (
                                   LetI (IntKind.i64.wrap (n41 + (1 : Int))) fun n358 =>
                                   ∃ k359 : Nat,
                                   (
                                    k359 < k42) ∧
                                   I30 k359 [Value.slice p32 k33 k34, Value.int IntKind.i64 n35, Value.bool b36, Value.int IntKind.i64 n337, Value.slice p343 k344 k345, Value.int IntKind.i64 n358] w354))))
                            (
                             Ca Try.prog (18 : Nat) #[Value.pointer p25] w347 fun e360 w361 =>
                             ∃ n362 : Int,
                             (
                              e360 = Ending.returned (Value.int IntKind.i64 n362)) ∧
                             Br (decide (n362 > n337))
                              (
                               R (Ending.returned (Value.bool false)) w361)
                              (
                               Ca Try.prog (13 : Nat) #[Value.pointer p25] w361 fun e363 w364 =>
                               ∃ b365 : Bool,
                               (
                                e363 = Ending.returned (Value.bool b365)) ∧
                               Br (b365)
                                (
                                 Br (!b349)
                                  (
                                   R (Ending.returned (Value.bool false)) w364)
                                  (
                                   LetI (IntKind.i64.wrap (n41 + (1 : Int))) fun n366 =>
                                   ∃ k367 : Nat,
                                   (
                                    k367 < k42) ∧
                                   I30 k367 [Value.slice p32 k33 k34, Value.int IntKind.i64 n35, Value.bool b36, Value.int IntKind.i64 n337, Value.slice p343 k344 k345, Value.int IntKind.i64 n366] w364))
                                (
                                 LetI (IntKind.i64.wrap (n41 + (1 : Int))) fun n368 =>
                                 ∃ k369 : Nat,
                                 (
                                  k369 < k42) ∧
                                 I30 k369 [Value.slice p32 k33 k34, Value.int IntKind.i64 n35, Value.bool b36, Value.int IntKind.i64 n337, Value.slice p343 k344 k345, Value.int IntKind.i64 n368] w364))))))))
                  (
                   Ca Try.prog (12 : Nat) #[Value.pointer p29] w43 fun e370 w371 =>
                   ∃ s372 : ByteArray,
                   ∃ b373 : Bool,
                   (
                    e370 = Ending.returned (Value.tuple #[Value.string s372, Value.bool b373])) ∧
                   Br (b373)
                    (
                     Br (!s372.toList == s1.toList)
                      (
                       R (Ending.returned (Value.bool false)) w371)
                      (
                       Ca Try.prog (18 : Nat) #[Value.pointer p25] w371 fun e374 w375 =>
                       ∃ n376 : Int,
                       (
                        e374 = Ending.returned (Value.int IntKind.i64 n376)) ∧
                       Br (decide (n376 > n37))
                        (
                         R (Ending.returned (Value.bool false)) w375)
                        (
                         Ca Try.prog (13 : Nat) #[Value.pointer p25] w375 fun e377 w378 =>
                         ∃ b379 : Bool,
                         (
                          e377 = Ending.returned (Value.bool b379)) ∧
                         Br (b379)
                          (
                           Br (!b373)
                            (
                             R (Ending.returned (Value.bool false)) w378)
                            (
                             LetI (IntKind.i64.wrap (n41 + (1 : Int))) fun n380 =>
                             ∃ k381 : Nat,
                             (
                              k381 < k42) ∧
                             I30 k381 [Value.slice p32 k33 k34, Value.int IntKind.i64 n35, Value.bool b36, Value.int IntKind.i64 n37, Value.slice p38 k39 k40, Value.int IntKind.i64 n380] w378))
                          (
                           LetI (IntKind.i64.wrap (n41 + (1 : Int))) fun n382 =>
                           ∃ k383 : Nat,
                           (
                            k383 < k42) ∧
                           I30 k383 [Value.slice p32 k33 k34, Value.int IntKind.i64 n35, Value.bool b36, Value.int IntKind.i64 n37, Value.slice p38 k39 k40, Value.int IntKind.i64 n382] w378))))
                    (
                     Ca Try.prog (18 : Nat) #[Value.pointer p25] w371 fun e384 w385 =>
                     ∃ n386 : Int,
                     (
                      e384 = Ending.returned (Value.int IntKind.i64 n386)) ∧
                     Br (decide (n386 > n37))
                      (
                       R (Ending.returned (Value.bool false)) w385)
                      (
                       Ca Try.prog (13 : Nat) #[Value.pointer p25] w385 fun e387 w388 =>
                       ∃ b389 : Bool,
                       (
                        e387 = Ending.returned (Value.bool b389)) ∧
                       Br (b389)
                        (
                         Br (!b373)
                          (
                           R (Ending.returned (Value.bool false)) w388)
                          (
                           LetI (IntKind.i64.wrap (n41 + (1 : Int))) fun n390 =>
                           ∃ k391 : Nat,
                           (
                            k391 < k42) ∧
                           I30 k391 [Value.slice p32 k33 k34, Value.int IntKind.i64 n35, Value.bool b36, Value.int IntKind.i64 n37, Value.slice p38 k39 k40, Value.int IntKind.i64 n390] w388))
                        (
                         LetI (IntKind.i64.wrap (n41 + (1 : Int))) fun n392 =>
                         ∃ k393 : Nat,
                         (
                          k393 < k42) ∧
                         I30 k393 [Value.slice p32 k33 k34, Value.int IntKind.i64 n35, Value.bool b36, Value.int IntKind.i64 n37, Value.slice p38 k39 k40, Value.int IntKind.i64 n392] w388)))))
                (
                 Br (n49 == (5 : Int))
                  (
                   Br (decide ((↑k33 : Int) > (0 : Int)))
                    (
                     (
                      (↑k33 : Int) ≠ (0 : Int)) ∧
                     LetI (n46.tmod (↑k33 : Int)) fun n394 =>
                     (
                      (
                       (0 : Int) ≤ (0 : Int)) ∧
                      (
                       (0 : Int) ≤ n394) ∧
                      (
                       n394 ≤ (↑k34 : Int)) ∧
                      (
                       (↑k34 : Int) ≤ (↑k34 : Int)) ∧
                      (
                       (
                        false = true) →
                       true = true)) ∧
                     LetI (IntKind.i64.wrap (n394 + (1 : Int))) fun n395 =>
                     (
                      (
                       (0 : Int) ≤ n395) ∧
                      (
                       n395 ≤ (↑k33 : Int)) ∧
                      (
                       (↑k33 : Int) ≤ (↑k34 : Int)) ∧
                      (
                       (↑k34 : Int) ≤ (↑k34 : Int)) ∧
                      (
                       (
                        false = true) →
                       false = true)) ∧
                     RunsV Try.prog (Builtin.append_ #[(56 : Nat), (56 : Nat)] (56 : Nat) #[Value.slice none (0 : Nat) (0 : Nat), Value.slice (if (↑k34 : Int).toNat = Int.toNat (0 : Int) then p32 else Option.map (fun x => x.add (Int.toNat (0 : Int) * sizeT Try.prog (32 : Nat))) p32) (n394.toNat - (0 : Nat)) ((↑k34 : Int).toNat - (0 : Nat))]) w43 fun v396 w397 =>
                     ∃ p398 : Option Addr,
                     ∃ k399 : Nat,
                     ∃ k400 : Nat,
                     (
                      v396 = Value.slice p398 k399 k400) ∧
                     RunsV Try.prog (Builtin.append_ #[(56 : Nat), (56 : Nat)] (56 : Nat) #[Value.slice p398 k399 k400, Value.slice (if (↑k34 : Int).toNat = n395.toNat then p32 else Option.map (fun x => x.add (n395.toNat * sizeT Try.prog (32 : Nat))) p32) ((↑k33 : Int).toNat - n395.toNat) ((↑k34 : Int).toNat - n395.toNat)]) w397 fun v401 w402 =>
                     ∃ p403 : Option Addr,
                     ∃ k404 : Nat,
                     ∃ k405 : Nat,
                     (
                      v401 = Value.slice p403 k404 k405) ∧
                     Ca Try.prog (12 : Nat) #[Value.pointer p29] w402 fun e406 w407 =>
                     ∃ s408 : ByteArray,
                     ∃ b409 : Bool,
                     (
                      e406 = Ending.returned (Value.tuple #[Value.string s408, Value.bool b409])) ∧
                     Br (b409)
                      (
                       Br (!s408.toList == s1.toList)
                        (
                         R (Ending.returned (Value.bool false)) w407)
                        (
                         Ca Try.prog (18 : Nat) #[Value.pointer p25] w407 fun e410 w411 =>
                         ∃ n412 : Int,
                         (
                          e410 = Ending.returned (Value.int IntKind.i64 n412)) ∧
                         Br (decide (n412 > n37))
                          (
                           R (Ending.returned (Value.bool false)) w411)
                          (
                           Ca Try.prog (13 : Nat) #[Value.pointer p25] w411 fun e413 w414 =>
                           ∃ b415 : Bool,
                           (
                            e413 = Ending.returned (Value.bool b415)) ∧
                           Br (b415)
                            (
                             Br (!b409)
                              (
                               R (Ending.returned (Value.bool false)) w414)
                              (
                               LetI (IntKind.i64.wrap (n41 + (1 : Int))) fun n416 =>
                               ∃ k417 : Nat,
                               (
                                k417 < k42) ∧
                               I30 k417 [Value.slice p403 k404 k405, Value.int IntKind.i64 n35, Value.bool b36, Value.int IntKind.i64 n37, Value.slice p38 k39 k40, Value.int IntKind.i64 n416] w414))
                            (
                             LetI (IntKind.i64.wrap (n41 + (1 : Int))) fun n418 =>
                             ∃ k419 : Nat,
                             (
                              k419 < k42) ∧
                             I30 k419 [Value.slice p403 k404 k405, Value.int IntKind.i64 n35, Value.bool b36, Value.int IntKind.i64 n37, Value.slice p38 k39 k40, Value.int IntKind.i64 n418] w414))))
                      (
                       Ca Try.prog (18 : Nat) #[Value.pointer p25] w407 fun e420 w421 =>
                       ∃ n422 : Int,
                       (
                        e420 = Ending.returned (Value.int IntKind.i64 n422)) ∧
                       Br (decide (n422 > n37))
                        (
                         R (Ending.returned (Value.bool false)) w421)
                        (
                         Ca Try.prog (13 : Nat) #[Value.pointer p25] w421 fun e423 w424 =>
                         ∃ b425 : Bool,
                         (
                          e423 = Ending.returned (Value.bool b425)) ∧
                         Br (b425)
                          (
                           Br (!b409)
                            (
                             R (Ending.returned (Value.bool false)) w424)
                            (
                             LetI (IntKind.i64.wrap (n41 + (1 : Int))) fun n426 =>
                             ∃ k427 : Nat,
                             (
                              k427 < k42) ∧
                             I30 k427 [Value.slice p403 k404 k405, Value.int IntKind.i64 n35, Value.bool b36, Value.int IntKind.i64 n37, Value.slice p38 k39 k40, Value.int IntKind.i64 n426] w424))
                          (
                           LetI (IntKind.i64.wrap (n41 + (1 : Int))) fun n428 =>
                           ∃ k429 : Nat,
                           (
                            k429 < k42) ∧
                           I30 k429 [Value.slice p403 k404 k405, Value.int IntKind.i64 n35, Value.bool b36, Value.int IntKind.i64 n37, Value.slice p38 k39 k40, Value.int IntKind.i64 n428] w424))))
                    (
                     Ca Try.prog (12 : Nat) #[Value.pointer p29] w43 fun e430 w431 =>
                     ∃ s432 : ByteArray,
                     ∃ b433 : Bool,
                     (
                      e430 = Ending.returned (Value.tuple #[Value.string s432, Value.bool b433])) ∧
                     Br (b433)
                      (
                       Br (!s432.toList == s1.toList)
                        (
                         R (Ending.returned (Value.bool false)) w431)
                        (
                         Ca Try.prog (18 : Nat) #[Value.pointer p25] w431 fun e434 w435 =>
                         ∃ n436 : Int,
                         (
                          e434 = Ending.returned (Value.int IntKind.i64 n436)) ∧
                         Br (decide (n436 > n37))
                          (
                           R (Ending.returned (Value.bool false)) w435)
                          (
                           Ca Try.prog (13 : Nat) #[Value.pointer p25] w435 fun e437 w438 =>
                           ∃ b439 : Bool,
                           (
                            e437 = Ending.returned (Value.bool b439)) ∧
                           Br (b439)
                            (
                             Br (!b433)
                              (
                               R (Ending.returned (Value.bool false)) w438)
                              (
                               LetI (IntKind.i64.wrap (n41 + (1 : Int))) fun n440 =>
                               ∃ k441 : Nat,
                               (
                                k441 < k42) ∧
                               I30 k441 [Value.slice p32 k33 k34, Value.int IntKind.i64 n35, Value.bool b36, Value.int IntKind.i64 n37, Value.slice p38 k39 k40, Value.int IntKind.i64 n440] w438))
                            (
                             LetI (IntKind.i64.wrap (n41 + (1 : Int))) fun n442 =>
                             ∃ k443 : Nat,
                             (
                              k443 < k42) ∧
                             I30 k443 [Value.slice p32 k33 k34, Value.int IntKind.i64 n35, Value.bool b36, Value.int IntKind.i64 n37, Value.slice p38 k39 k40, Value.int IntKind.i64 n442] w438))))
                      (
                       Ca Try.prog (18 : Nat) #[Value.pointer p25] w431 fun e444 w445 =>
                       ∃ n446 : Int,
                       (
                        e444 = Ending.returned (Value.int IntKind.i64 n446)) ∧
                       Br (decide (n446 > n37))
                        (
                         R (Ending.returned (Value.bool false)) w445)
                        (
                         Ca Try.prog (13 : Nat) #[Value.pointer p25] w445 fun e447 w448 =>
                         ∃ b449 : Bool,
                         (
                          e447 = Ending.returned (Value.bool b449)) ∧
                         Br (b449)
                          (
                           Br (!b433)
                            (
                             R (Ending.returned (Value.bool false)) w448)
                            (
                             LetI (IntKind.i64.wrap (n41 + (1 : Int))) fun n450 =>
                             ∃ k451 : Nat,
                             (
                              k451 < k42) ∧
                             I30 k451 [Value.slice p32 k33 k34, Value.int IntKind.i64 n35, Value.bool b36, Value.int IntKind.i64 n37, Value.slice p38 k39 k40, Value.int IntKind.i64 n450] w448))
                          (
                           LetI (IntKind.i64.wrap (n41 + (1 : Int))) fun n452 =>
                           ∃ k453 : Nat,
                           (
                            k453 < k42) ∧
                           I30 k453 [Value.slice p32 k33 k34, Value.int IntKind.i64 n35, Value.bool b36, Value.int IntKind.i64 n37, Value.slice p38 k39 k40, Value.int IntKind.i64 n452] w448)))))
                  (
                   Br (n49 == (6 : Int))
                    (
                     Br (decide ((↑k39 : Int) > (0 : Int)))
                      (
                       (
                        (↑k39 : Int) ≠ (0 : Int)) ∧
                       LetI (n46.tmod (↑k39 : Int)) fun n454 =>
                       NilOk p38 fun a455 =>
                       (
                        (
                         (0 : Int) ≤ n454) ∧
                        n454 < (↑k39 : Int)) ∧
                       ∃ n456 : Int,
                       (
                        w43.cell? (a455.add (n454.toNat * (1 : Nat))) = some (Value.int IntKind.i64 n456)) ∧
                       Ca Try.prog (11 : Nat) #[Value.pointer p25, Value.int IntKind.i64 (7 : Int), Value.int IntKind.i64 n456] w43 fun e457 w458 =>
                       ∃ n459 : Int,
                       (
                        e457 = Ending.returned (Value.int IntKind.i64 n459)) ∧
                       Br (n459 != (0 : Int))
                        (
                         R (Ending.returned (Value.bool false)) w458)
                        (
                         Ca Try.prog (12 : Nat) #[Value.pointer p29] w458 fun e460 w461 =>
                         ∃ s462 : ByteArray,
                         ∃ b463 : Bool,
                         (
                          e460 = Ending.returned (Value.tuple #[Value.string s462, Value.bool b463])) ∧
                         Br (b463)
                          (
                           Br (!s462.toList == s1.toList)
                            (
                             R (Ending.returned (Value.bool false)) w461)
                            (
                             Ca Try.prog (18 : Nat) #[Value.pointer p25] w461 fun e464 w465 =>
                             ∃ n466 : Int,
                             (
                              e464 = Ending.returned (Value.int IntKind.i64 n466)) ∧
                             Br (decide (n466 > n37))
                              (
                               R (Ending.returned (Value.bool false)) w465)
                              (
                               Ca Try.prog (13 : Nat) #[Value.pointer p25] w465 fun e467 w468 =>
                               ∃ b469 : Bool,
                               (
                                e467 = Ending.returned (Value.bool b469)) ∧
                               Br (b469)
                                (
                                 Br (!b463)
                                  (
                                   R (Ending.returned (Value.bool false)) w468)
                                  (
                                   LetI (IntKind.i64.wrap (n41 + (1 : Int))) fun n470 =>
                                   ∃ k471 : Nat,
                                   (
                                    k471 < k42) ∧
                                   I30 k471 [Value.slice p32 k33 k34, Value.int IntKind.i64 n35, Value.bool b36, Value.int IntKind.i64 n37, Value.slice p38 k39 k40, Value.int IntKind.i64 n470] w468))
                                (
                                 LetI (IntKind.i64.wrap (n41 + (1 : Int))) fun n472 =>
                                 ∃ k473 : Nat,
                                 (
                                  k473 < k42) ∧
                                 I30 k473 [Value.slice p32 k33 k34, Value.int IntKind.i64 n35, Value.bool b36, Value.int IntKind.i64 n37, Value.slice p38 k39 k40, Value.int IntKind.i64 n472] w468))))
                          (
                           Ca Try.prog (18 : Nat) #[Value.pointer p25] w461 fun e474 w475 =>
                           ∃ n476 : Int,
                           (
                            e474 = Ending.returned (Value.int IntKind.i64 n476)) ∧
                           Br (decide (n476 > n37))
                            (
                             R (Ending.returned (Value.bool false)) w475)
                            (
                             Ca Try.prog (13 : Nat) #[Value.pointer p25] w475 fun e477 w478 =>
                             ∃ b479 : Bool,
                             (
                              e477 = Ending.returned (Value.bool b479)) ∧
                             Br (b479)
                              (
                               Br (!b463)
                                (
                                 R (Ending.returned (Value.bool false)) w478)
                                (
                                 LetI (IntKind.i64.wrap (n41 + (1 : Int))) fun n480 =>
                                 ∃ k481 : Nat,
                                 (
                                  k481 < k42) ∧
                                 I30 k481 [Value.slice p32 k33 k34, Value.int IntKind.i64 n35, Value.bool b36, Value.int IntKind.i64 n37, Value.slice p38 k39 k40, Value.int IntKind.i64 n480] w478))
                              (
                               LetI (IntKind.i64.wrap (n41 + (1 : Int))) fun n482 =>
                               ∃ k483 : Nat,
                               (
                                k483 < k42) ∧
                               I30 k483 [Value.slice p32 k33 k34, Value.int IntKind.i64 n35, Value.bool b36, Value.int IntKind.i64 n37, Value.slice p38 k39 k40, Value.int IntKind.i64 n482] w478)))))
                      (
                       Ca Try.prog (12 : Nat) #[Value.pointer p29] w43 fun e484 w485 =>
                       ∃ s486 : ByteArray,
                       ∃ b487 : Bool,
                       (
                        e484 = Ending.returned (Value.tuple #[Value.string s486, Value.bool b487])) ∧
                       Br (b487)
                        (
                         Br (!s486.toList == s1.toList)
                          (
                           R (Ending.returned (Value.bool false)) w485)
                          (
                           Ca Try.prog (18 : Nat) #[Value.pointer p25] w485 fun e488 w489 =>
                           ∃ n490 : Int,
                           (
                            e488 = Ending.returned (Value.int IntKind.i64 n490)) ∧
                           Br (decide (n490 > n37))
                            (
                             R (Ending.returned (Value.bool false)) w489)
                            (
                             Ca Try.prog (13 : Nat) #[Value.pointer p25] w489 fun e491 w492 =>
                             ∃ b493 : Bool,
                             (
                              e491 = Ending.returned (Value.bool b493)) ∧
                             Br (b493)
                              (
                               Br (!b487)
                                (
                                 R (Ending.returned (Value.bool false)) w492)
                                (
                                 LetI (IntKind.i64.wrap (n41 + (1 : Int))) fun n494 =>
                                 ∃ k495 : Nat,
                                 (
                                  k495 < k42) ∧
                                 I30 k495 [Value.slice p32 k33 k34, Value.int IntKind.i64 n35, Value.bool b36, Value.int IntKind.i64 n37, Value.slice p38 k39 k40, Value.int IntKind.i64 n494] w492))
                              (
                               LetI (IntKind.i64.wrap (n41 + (1 : Int))) fun n496 =>
                               ∃ k497 : Nat,
                               (
                                k497 < k42) ∧
                               I30 k497 [Value.slice p32 k33 k34, Value.int IntKind.i64 n35, Value.bool b36, Value.int IntKind.i64 n37, Value.slice p38 k39 k40, Value.int IntKind.i64 n496] w492))))
                        (
                         Ca Try.prog (18 : Nat) #[Value.pointer p25] w485 fun e498 w499 =>
                         ∃ n500 : Int,
                         (
                          e498 = Ending.returned (Value.int IntKind.i64 n500)) ∧
                         Br (decide (n500 > n37))
                          (
                           R (Ending.returned (Value.bool false)) w499)
                          (
                           Ca Try.prog (13 : Nat) #[Value.pointer p25] w499 fun e501 w502 =>
                           ∃ b503 : Bool,
                           (
                            e501 = Ending.returned (Value.bool b503)) ∧
                           Br (b503)
                            (
                             Br (!b487)
                              (
                               R (Ending.returned (Value.bool false)) w502)
                              (
                               LetI (IntKind.i64.wrap (n41 + (1 : Int))) fun n504 =>
                               ∃ k505 : Nat,
                               (
                                k505 < k42) ∧
                               I30 k505 [Value.slice p32 k33 k34, Value.int IntKind.i64 n35, Value.bool b36, Value.int IntKind.i64 n37, Value.slice p38 k39 k40, Value.int IntKind.i64 n504] w502))
                            (
                             LetI (IntKind.i64.wrap (n41 + (1 : Int))) fun n506 =>
                             ∃ k507 : Nat,
                             (
                              k507 < k42) ∧
                             I30 k507 [Value.slice p32 k33 k34, Value.int IntKind.i64 n35, Value.bool b36, Value.int IntKind.i64 n37, Value.slice p38 k39 k40, Value.int IntKind.i64 n506] w502)))))
                    (
                     Ca Try.prog (16 : Nat) #[Value.pointer p25] w43 fun e508 w509 =>
                     (
                      e508 = Ending.returned (Value.tuple #[])) ∧
                     Ca Try.prog (12 : Nat) #[Value.pointer p29] w509 fun e510 w511 =>
                     ∃ s512 : ByteArray,
                     ∃ b513 : Bool,
                     (
                      e510 = Ending.returned (Value.tuple #[Value.string s512, Value.bool b513])) ∧
                     Br (b513)
                      (
                       Br (!s512.toList == s1.toList)
                        (
                         R (Ending.returned (Value.bool false)) w511)
                        (
                         Ca Try.prog (18 : Nat) #[Value.pointer p25] w511 fun e514 w515 =>
                         ∃ n516 : Int,
                         (
                          e514 = Ending.returned (Value.int IntKind.i64 n516)) ∧
                         Br (decide (n516 > n37))
                          (
                           R (Ending.returned (Value.bool false)) w515)
                          (
                           Ca Try.prog (13 : Nat) #[Value.pointer p25] w515 fun e517 w518 =>
                           ∃ b519 : Bool,
                           (
                            e517 = Ending.returned (Value.bool b519)) ∧
                           Br (b519)
                            (
                             Br (!b513)
                              (
                               R (Ending.returned (Value.bool false)) w518)
                              (
                               LetI (IntKind.i64.wrap (n41 + (1 : Int))) fun n520 =>
                               ∃ k521 : Nat,
                               (
                                k521 < k42) ∧
                               I30 k521 [Value.slice p32 k33 k34, Value.int IntKind.i64 n35, Value.bool b36, Value.int IntKind.i64 n37, Value.slice p38 k39 k40, Value.int IntKind.i64 n520] w518))
                            (
                             LetI (IntKind.i64.wrap (n41 + (1 : Int))) fun n522 =>
                             ∃ k523 : Nat,
                             (
                              k523 < k42) ∧
                             I30 k523 [Value.slice p32 k33 k34, Value.int IntKind.i64 n35, Value.bool b36, Value.int IntKind.i64 n37, Value.slice p38 k39 k40, Value.int IntKind.i64 n522] w518))))
                      (
                       Ca Try.prog (18 : Nat) #[Value.pointer p25] w511 fun e524 w525 =>
                       ∃ n526 : Int,
                       (
                        e524 = Ending.returned (Value.int IntKind.i64 n526)) ∧
                       Br (decide (n526 > n37))
                        (
                         R (Ending.returned (Value.bool false)) w525)
                        (
                         Ca Try.prog (13 : Nat) #[Value.pointer p25] w525 fun e527 w528 =>
                         ∃ b529 : Bool,
                         (
                          e527 = Ending.returned (Value.bool b529)) ∧
                         Br (b529)
                          (
                           Br (!b513)
                            (
                             R (Ending.returned (Value.bool false)) w528)
                            (
                             LetI (IntKind.i64.wrap (n41 + (1 : Int))) fun n530 =>
                             ∃ k531 : Nat,
                             (
                              k531 < k42) ∧
                             I30 k531 [Value.slice p32 k33 k34, Value.int IntKind.i64 n35, Value.bool b36, Value.int IntKind.i64 n37, Value.slice p38 k39 k40, Value.int IntKind.i64 n530] w528))
                          (
                           LetI (IntKind.i64.wrap (n41 + (1 : Int))) fun n532 =>
                           ∃ k533 : Nat,
                           (
                            k533 < k42) ∧
                           I30 k533 [Value.slice p32 k33 k34, Value.int IntKind.i64 n35, Value.bool b36, Value.int IntKind.i64 n37, Value.slice p38 k39 k40, Value.int IntKind.i64 n532] w528)))))))))
          (
           Br (n49 == (1 : Int))
            (
             Br (n49 == (1 : Int))
              (
               Ca Try.prog (9 : Nat) #[Value.pointer p25] w43 fun e534 w535 =>
               ∃ n536 : Int,
               ∃ n537 : Int,
               ∃ n538 : Int,
               ∃ s539 : ByteArray,
               ∃ b540 : Bool,
               (
                e534 = Ending.returned (Value.tuple #[Value.agg #[Value.int IntKind.i64 n536, Value.int IntKind.i64 n537, Value.int IntKind.i64 n538, Value.string s539], Value.bool b540])) ∧
               LetA (Obj.cells #[Value.int IntKind.i64 (0 : Int), Value.int IntKind.i64 (0 : Int), Value.int IntKind.i64 (0 : Int), Value.string { data := #[] }] (32 : Nat)) w535 fun b541 w542 =>
               (
                WrRow w542 { block := b541, off := (0 : Nat) } (0 : Nat) [Value.int IntKind.i64 n536, Value.int IntKind.i64 n537, Value.int IntKind.i64 n538, Value.string s539]) ∧
               LetW (setRow w542 { block := b541, off := (0 : Nat) } (0 : Nat) [Value.int IntKind.i64 n536, Value.int IntKind.i64 n537, Value.int IntKind.i64 n538, Value.string s539]) fun w543 =>
               Br (b540)
                (
                 ∃ n544 : Int,
                 ∃ n545 : Int,
                 ∃ n546 : Int,
                 ∃ s547 : ByteArray,
                 (
                  Row w543 { block := b541, off := (0 : Nat) } (0 : Nat) [Value.int IntKind.i64 n544, Value.int IntKind.i64 n545, Value.int IntKind.i64 n546, Value.string s547]) ∧
                 ∃ n548 : Int,
                 (
                  w543.cell? { block := b541, off := (1 : Nat) } = some (Value.int IntKind.i64 n548)) ∧
                 LetI (IntKind.i64.wrap (n548 + (1 : Int))) fun n549 =>
                 LetI (max n35 n549) fun n550 =>
                 LetA (Obj.cells #[Value.int IntKind.i64 n544, Value.int IntKind.i64 n545, Value.int IntKind.i64 n546, Value.string s547] (32 : Nat)) w543 fun b551 w552 =>
                 (
                  w552.cell? { block := b541, off := (1 : Nat) } = some (Value.int IntKind.i64 n548)) ∧
                 RunsV Try.prog (Builtin.append_ #[(56 : Nat), (56 : Nat)] (56 : Nat) #[Value.slice p32 k33 k34, Value.slice (some { block := b551, off := (0 : Nat) }) (1 : Nat) (1 : Nat)]) w552 fun v553 w554 =>
                 ∃ p555 : Option Addr,
                 ∃ k556 : Nat,
                 ∃ k557 : Nat,
                 (
                  v553 = Value.slice p555 k556 k557) ∧
                 (
                  w554.cell? { block := b541, off := (1 : Nat) } = some (Value.int IntKind.i64 n548)) ∧
                 Ca Try.prog (12 : Nat) #[Value.pointer p29] w554 fun e558 w559 =>
                 ∃ s560 : ByteArray,
                 ∃ b561 : Bool,
                 (
                  e558 = Ending.returned (Value.tuple #[Value.string s560, Value.bool b561])) ∧
                 Br (b561)
                  (
                   Br (!s560.toList == s1.toList)
                    (
                     R (Ending.returned (Value.bool false)) w559)
                    (
                     Ca Try.prog (18 : Nat) #[Value.pointer p25] w559 fun e562 w563 =>
                     ∃ n564 : Int,
                     (
                      e562 = Ending.returned (Value.int IntKind.i64 n564)) ∧
                     Br (decide (n564 > n37))
                      (
                       R (Ending.returned (Value.bool false)) w563)
                      (
                       Ca Try.prog (13 : Nat) #[Value.pointer p25] w563 fun e565 w566 =>
                       ∃ b567 : Bool,
                       (
                        e565 = Ending.returned (Value.bool b567)) ∧
                       Br (b567)
                        (
                         Br (!b561)
                          (
                           R (Ending.returned (Value.bool false)) w566)
                          (
                           LetI (IntKind.i64.wrap (n41 + (1 : Int))) fun n568 =>
                           ∃ k569 : Nat,
                           (
                            k569 < k42) ∧
                           I30 k569 [Value.slice p555 k556 k557, Value.int IntKind.i64 n550, Value.bool b36, Value.int IntKind.i64 n37, Value.slice p38 k39 k40, Value.int IntKind.i64 n568] w566))
                        (
                         LetI (IntKind.i64.wrap (n41 + (1 : Int))) fun n570 =>
                         ∃ k571 : Nat,
                         (
                          k571 < k42) ∧
                         I30 k571 [Value.slice p555 k556 k557, Value.int IntKind.i64 n550, Value.bool b36, Value.int IntKind.i64 n37, Value.slice p38 k39 k40, Value.int IntKind.i64 n570] w566))))
                  (
                   Ca Try.prog (18 : Nat) #[Value.pointer p25] w559 fun e572 w573 =>
                   ∃ n574 : Int,
                   (
                    e572 = Ending.returned (Value.int IntKind.i64 n574)) ∧
                   Br (decide (n574 > n37))
                    (
                     R (Ending.returned (Value.bool false)) w573)
                    (
                     Ca Try.prog (13 : Nat) #[Value.pointer p25] w573 fun e575 w576 =>
                     ∃ b577 : Bool,
                     (
                      e575 = Ending.returned (Value.bool b577)) ∧
                     Br (b577)
                      (
                       Br (!b561)
                        (
                         R (Ending.returned (Value.bool false)) w576)
                        (
                         LetI (IntKind.i64.wrap (n41 + (1 : Int))) fun n578 =>
                         ∃ k579 : Nat,
                         (
                          k579 < k42) ∧
                         I30 k579 [Value.slice p555 k556 k557, Value.int IntKind.i64 n550, Value.bool b36, Value.int IntKind.i64 n37, Value.slice p38 k39 k40, Value.int IntKind.i64 n578] w576))
                      (
                       LetI (IntKind.i64.wrap (n41 + (1 : Int))) fun n580 =>
                       ∃ k581 : Nat,
                       (
                        k581 < k42) ∧
                       I30 k581 [Value.slice p555 k556 k557, Value.int IntKind.i64 n550, Value.bool b36, Value.int IntKind.i64 n37, Value.slice p38 k39 k40, Value.int IntKind.i64 n580] w576))))
                (
                 Ca Try.prog (12 : Nat) #[Value.pointer p29] w543 fun e582 w583 =>
                 ∃ s584 : ByteArray,
                 ∃ b585 : Bool,
                 (
                  e582 = Ending.returned (Value.tuple #[Value.string s584, Value.bool b585])) ∧
                 Br (b585)
                  (
                   Br (!s584.toList == s1.toList)
                    (
                     R (Ending.returned (Value.bool false)) w583)
                    (
                     Ca Try.prog (18 : Nat) #[Value.pointer p25] w583 fun e586 w587 =>
                     ∃ n588 : Int,
                     (
                      e586 = Ending.returned (Value.int IntKind.i64 n588)) ∧
                     Br (decide (n588 > n37))
                      (
                       R (Ending.returned (Value.bool false)) w587)
                      (
                       Ca Try.prog (13 : Nat) #[Value.pointer p25] w587 fun e589 w590 =>
                       ∃ b591 : Bool,
                       (
                        e589 = Ending.returned (Value.bool b591)) ∧
                       Br (b591)
                        (
                         Br (!b585)
                          (
                           R (Ending.returned (Value.bool false)) w590)
                          (
                           LetI (IntKind.i64.wrap (n41 + (1 : Int))) fun n592 =>
                           ∃ k593 : Nat,
                           (
                            k593 < k42) ∧
                           I30 k593 [Value.slice p32 k33 k34, Value.int IntKind.i64 n35, Value.bool b36, Value.int IntKind.i64 n37, Value.slice p38 k39 k40, Value.int IntKind.i64 n592] w590))
                        (
                         LetI (IntKind.i64.wrap (n41 + (1 : Int))) fun n594 =>
                         ∃ k595 : Nat,
                         (
                          k595 < k42) ∧
                         I30 k595 [Value.slice p32 k33 k34, Value.int IntKind.i64 n35, Value.bool b36, Value.int IntKind.i64 n37, Value.slice p38 k39 k40, Value.int IntKind.i64 n594] w590))))
                  (
                   Ca Try.prog (18 : Nat) #[Value.pointer p25] w583 fun e596 w597 =>
                   ∃ n598 : Int,
                   (
                    e596 = Ending.returned (Value.int IntKind.i64 n598)) ∧
                   Br (decide (n598 > n37))
                    (
                     R (Ending.returned (Value.bool false)) w597)
                    (
                     Ca Try.prog (13 : Nat) #[Value.pointer p25] w597 fun e599 w600 =>
                     ∃ b601 : Bool,
                     (
                      e599 = Ending.returned (Value.bool b601)) ∧
                     Br (b601)
                      (
                       Br (!b585)
                        (
                         R (Ending.returned (Value.bool false)) w600)
                        (
                         LetI (IntKind.i64.wrap (n41 + (1 : Int))) fun n602 =>
                         ∃ k603 : Nat,
                         (
                          k603 < k42) ∧
                         I30 k603 [Value.slice p32 k33 k34, Value.int IntKind.i64 n35, Value.bool b36, Value.int IntKind.i64 n37, Value.slice p38 k39 k40, Value.int IntKind.i64 n602] w600))
                      (
                       LetI (IntKind.i64.wrap (n41 + (1 : Int))) fun n604 =>
                       ∃ k605 : Nat,
                       (
                        k605 < k42) ∧
                       I30 k605 [Value.slice p32 k33 k34, Value.int IntKind.i64 n35, Value.bool b36, Value.int IntKind.i64 n37, Value.slice p38 k39 k40, Value.int IntKind.i64 n604] w600)))))
              (
               Br (n49 == (3 : Int))
                (
                 Br (n49 == (3 : Int))
                  (
                   Br (decide ((↑k33 : Int) > (0 : Int)))
                    (
                     (
                      (↑k33 : Int) ≠ (0 : Int)) ∧
                     LetI (n46.tmod (↑k33 : Int)) fun n606 =>
                     NilOk p32 fun a607 =>
                     (
                      (
                       (0 : Int) ≤ n606) ∧
                      n606 < (↑k33 : Int)) ∧
                     ∃ n608 : Int,
                     ∃ n609 : Int,
                     ∃ n610 : Int,
                     ∃ s611 : ByteArray,
                     (
                      Row w43 (a607.add (n606.toNat * (4 : Nat))) (0 : Nat) [Value.int IntKind.i64 n608, Value.int IntKind.i64 n609, Value.int IntKind.i64 n610, Value.string s611]) ∧
                     Ca Try.prog (10 : Nat) #[Value.pointer p29, Value.agg #[Value.int IntKind.i64 n608, Value.int IntKind.i64 n609, Value.int IntKind.i64 n610, Value.string s611]] w43 fun e612 w613 =>
                     ∃ n614 : Int,
                     ∃ n615 : Int,
                     (
                      e612 = Ending.returned (Value.tuple #[Value.int IntKind.i64 n614, Value.int IntKind.i64 n615])) ∧
                     Br (n614 != (7 : Int))
                      (
                       R (Ending.returned (Value.bool false)) w613)
                      (
                       Br (decide (n615 < n37))
                        (
                         R (Ending.returned (Value.bool false)) w613)
                        (
                         LetI (IntKind.i64.wrap (n37 + (1 : Int))) fun n616 =>
                         Br (decide (n615 > n616))
                          (
                           R (Ending.returned (Value.bool false)) w613)
                          (
                           Br (decide (n615 > n35))
                            (
                             R (Ending.returned (Value.bool false)) w613)
                            (
                             LetA (Obj.cells #[Value.int IntKind.i64 n615] (3 : Nat)) w613 fun b617 w618 =>
                             RunsV Try.prog (Builtin.append_ #[(57 : Nat), (57 : Nat)] (57 : Nat) #[Value.slice p38 k39 k40, Value.slice (some { block := b617, off := (0 : Nat) }) (1 : Nat) (1 : Nat)]) w618 fun v619 w620 =>
                             ∃ p621 : Option Addr,
                             ∃ k622 : Nat,
                             ∃ k623 : Nat,
                             (
                              v619 = Value.slice p621 k622 k623) ∧
                             Ca Try.prog (12 : Nat) #[Value.pointer p29] w620 fun e624 w625 =>
                             ∃ s626 : ByteArray,
                             ∃ b627 : Bool,
                             (
                              e624 = Ending.returned (Value.tuple #[Value.string s626, Value.bool b627])) ∧
                             Br (b627)
                              (
                               Br (!s626.toList == s1.toList)
                                (
                                 R (Ending.returned (Value.bool false)) w625)
                                (
                                 Ca Try.prog (18 : Nat) #[Value.pointer p25] w625 fun e628 w629 =>
                                 ∃ n630 : Int,
                                 (
                                  e628 = Ending.returned (Value.int IntKind.i64 n630)) ∧
                                 Br (decide (n630 > n615))
                                  (
                                   R (Ending.returned (Value.bool false)) w629)
                                  (
                                   Ca Try.prog (13 : Nat) #[Value.pointer p25] w629 fun e631 w632 =>
                                   ∃ b633 : Bool,
                                   (
                                    e631 = Ending.returned (Value.bool b633)) ∧
                                   Br (b633)
                                    (
                                     Br (!b627)
                                      (
                                       R (Ending.returned (Value.bool false)) w632)
                                      (
                                       LetI (IntKind.i64.wrap (n41 + (1 : Int))) fun n634 =>
                                       ∃ k635 : Nat,
                                       (
                                        k635 < k42) ∧
                                       I30 k635 [Value.slice p32 k33 k34, Value.int IntKind.i64 n35, Value.bool b36, Value.int IntKind.i64 n615, Value.slice p621 k622 k623, Value.int IntKind.i64 n634] w632))
                                    (
                                     LetI (IntKind.i64.wrap (n41 + (1 : Int))) fun n636 =>
                                     ∃ k637 : Nat,
                                     (
                                      k637 < k42) ∧
                                     I30 k637 [Value.slice p32 k33 k34, Value.int IntKind.i64 n35, Value.bool b36, Value.int IntKind.i64 n615, Value.slice p621 k622 k623, Value.int IntKind.i64 n636] w632))))
                              (
                               Ca Try.prog (18 : Nat) #[Value.pointer p25] w625 fun e638 w639 =>
                               ∃ n640 : Int,
                               (
                                e638 = Ending.returned (Value.int IntKind.i64 n640)) ∧
                               Br (decide (n640 > n615))
                                (
                                 R (Ending.returned (Value.bool false)) w639)
                                (
                                 Ca Try.prog (13 : Nat) #[Value.pointer p25] w639 fun e641 w642 =>
                                 ∃ b643 : Bool,
                                 (
                                  e641 = Ending.returned (Value.bool b643)) ∧
                                 Br (b643)
                                  (
                                   Br (!b627)
                                    (
                                     R (Ending.returned (Value.bool false)) w642)
                                    (
                                     LetI (IntKind.i64.wrap (n41 + (1 : Int))) fun n644 =>
                                     ∃ k645 : Nat,
                                     (
                                      k645 < k42) ∧
                                     I30 k645 [Value.slice p32 k33 k34, Value.int IntKind.i64 n35, Value.bool b36, Value.int IntKind.i64 n615, Value.slice p621 k622 k623, Value.int IntKind.i64 n644] w642))
                                  (
                                   LetI (IntKind.i64.wrap (n41 + (1 : Int))) fun n646 =>
                                   ∃ k647 : Nat,
                                   (
                                    k647 < k42) ∧
                                   I30 k647 [Value.slice p32 k33 k34, Value.int IntKind.i64 n35, Value.bool b36, Value.int IntKind.i64 n615, Value.slice p621 k622 k623, Value.int IntKind.i64 n646] w642))))))))
                    (
                     Ca Try.prog (12 : Nat) #[Value.pointer p29] w43 fun e648 w649 =>
                     ∃ s650 : ByteArray,
                     ∃ b651 : Bool,
                     (
                      e648 = Ending.returned (Value.tuple #[Value.string s650, Value.bool b651])) ∧
                     Br (b651)
                      (
                       Br (!s650.toList == s1.toList)
                        (
                         R (Ending.returned (Value.bool false)) w649)
                        (
                         Ca Try.prog (18 : Nat) #[Value.pointer p25] w649 fun e652 w653 =>
                         ∃ n654 : Int,
                         (
                          e652 = Ending.returned (Value.int IntKind.i64 n654)) ∧
                         Br (decide (n654 > n37))
                          (
                           R (Ending.returned (Value.bool false)) w653)
                          (
                           Ca Try.prog (13 : Nat) #[Value.pointer p25] w653 fun e655 w656 =>
                           ∃ b657 : Bool,
                           (
                            e655 = Ending.returned (Value.bool b657)) ∧
                           Br (b657)
                            (
                             Br (!b651)
                              (
                               R (Ending.returned (Value.bool false)) w656)
                              (
                               LetI (IntKind.i64.wrap (n41 + (1 : Int))) fun n658 =>
                               ∃ k659 : Nat,
                               (
                                k659 < k42) ∧
                               I30 k659 [Value.slice p32 k33 k34, Value.int IntKind.i64 n35, Value.bool b36, Value.int IntKind.i64 n37, Value.slice p38 k39 k40, Value.int IntKind.i64 n658] w656))
                            (
                             LetI (IntKind.i64.wrap (n41 + (1 : Int))) fun n660 =>
                             ∃ k661 : Nat,
                             (
                              k661 < k42) ∧
                             I30 k661 [Value.slice p32 k33 k34, Value.int IntKind.i64 n35, Value.bool b36, Value.int IntKind.i64 n37, Value.slice p38 k39 k40, Value.int IntKind.i64 n660] w656))))
                      (
                       Ca Try.prog (18 : Nat) #[Value.pointer p25] w649 fun e662 w663 =>
                       ∃ n664 : Int,
                       (
                        e662 = Ending.returned (Value.int IntKind.i64 n664)) ∧
                       Br (decide (n664 > n37))
                        (
                         R (Ending.returned (Value.bool false)) w663)
                        (
                         Ca Try.prog (13 : Nat) #[Value.pointer p25] w663 fun e665 w666 =>
                         ∃ b667 : Bool,
                         (
                          e665 = Ending.returned (Value.bool b667)) ∧
                         Br (b667)
                          (
                           Br (!b651)
                            (
                             R (Ending.returned (Value.bool false)) w666)
                            (
                             LetI (IntKind.i64.wrap (n41 + (1 : Int))) fun n668 =>
                             ∃ k669 : Nat,
                             (
                              k669 < k42) ∧
                             I30 k669 [Value.slice p32 k33 k34, Value.int IntKind.i64 n35, Value.bool b36, Value.int IntKind.i64 n37, Value.slice p38 k39 k40, Value.int IntKind.i64 n668] w666))
                          (
                           LetI (IntKind.i64.wrap (n41 + (1 : Int))) fun n670 =>
                           ∃ k671 : Nat,
                           (
                            k671 < k42) ∧
                           I30 k671 [Value.slice p32 k33 k34, Value.int IntKind.i64 n35, Value.bool b36, Value.int IntKind.i64 n37, Value.slice p38 k39 k40, Value.int IntKind.i64 n670] w666)))))
                  (
                   Br (n49 == (5 : Int))
                    (
                     Br (decide ((↑k33 : Int) > (0 : Int)))
                      (
                       (
                        (↑k33 : Int) ≠ (0 : Int)) ∧
                       LetI (n46.tmod (↑k33 : Int)) fun n672 =>
                       (
                        (
                         (0 : Int) ≤ (0 : Int)) ∧
                        (
                         (0 : Int) ≤ n672) ∧
                        (
                         n672 ≤ (↑k34 : Int)) ∧
                        (
                         (↑k34 : Int) ≤ (↑k34 : Int)) ∧
                        (
                         (
                          false = true) →
                         true = true)) ∧
                       LetI (IntKind.i64.wrap (n672 + (1 : Int))) fun n673 =>
                       (
                        (
                         (0 : Int) ≤ n673) ∧
                        (
                         n673 ≤ (↑k33 : Int)) ∧
                        (
                         (↑k33 : Int) ≤ (↑k34 : Int)) ∧
                        (
                         (↑k34 : Int) ≤ (↑k34 : Int)) ∧
                        (
                         (
                          false = true) →
                         false = true)) ∧
                       RunsV Try.prog (Builtin.append_ #[(56 : Nat), (56 : Nat)] (56 : Nat) #[Value.slice none (0 : Nat) (0 : Nat), Value.slice (if (↑k34 : Int).toNat = Int.toNat (0 : Int) then p32 else Option.map (fun x => x.add (Int.toNat (0 : Int) * sizeT Try.prog (32 : Nat))) p32) (n672.toNat - (0 : Nat)) ((↑k34 : Int).toNat - (0 : Nat))]) w43 fun v674 w675 =>
                       ∃ p676 : Option Addr,
                       ∃ k677 : Nat,
                       ∃ k678 : Nat,
                       (
                        v674 = Value.slice p676 k677 k678) ∧
                       RunsV Try.prog (Builtin.append_ #[(56 : Nat), (56 : Nat)] (56 : Nat) #[Value.slice p676 k677 k678, Value.slice (if (↑k34 : Int).toNat = n673.toNat then p32 else Option.map (fun x => x.add (n673.toNat * sizeT Try.prog (32 : Nat))) p32) ((↑k33 : Int).toNat - n673.toNat) ((↑k34 : Int).toNat - n673.toNat)]) w675 fun v679 w680 =>
                       ∃ p681 : Option Addr,
                       ∃ k682 : Nat,
                       ∃ k683 : Nat,
                       (
                        v679 = Value.slice p681 k682 k683) ∧
                       Ca Try.prog (12 : Nat) #[Value.pointer p29] w680 fun e684 w685 =>
                       ∃ s686 : ByteArray,
                       ∃ b687 : Bool,
                       (
                        e684 = Ending.returned (Value.tuple #[Value.string s686, Value.bool b687])) ∧
                       Br (b687)
                        (
                         Br (!s686.toList == s1.toList)
                          (
                           R (Ending.returned (Value.bool false)) w685)
                          (
                           Ca Try.prog (18 : Nat) #[Value.pointer p25] w685 fun e688 w689 =>
                           ∃ n690 : Int,
                           (
                            e688 = Ending.returned (Value.int IntKind.i64 n690)) ∧
                           Br (decide (n690 > n37))
                            (
                             R (Ending.returned (Value.bool false)) w689)
                            (
                             Ca Try.prog (13 : Nat) #[Value.pointer p25] w689 fun e691 w692 =>
                             ∃ b693 : Bool,
                             (
                              e691 = Ending.returned (Value.bool b693)) ∧
                             Br (b693)
                              (
                               Br (!b687)
                                (
                                 R (Ending.returned (Value.bool false)) w692)
                                (
                                 LetI (IntKind.i64.wrap (n41 + (1 : Int))) fun n694 =>
                                 ∃ k695 : Nat,
                                 (
                                  k695 < k42) ∧
                                 I30 k695 [Value.slice p681 k682 k683, Value.int IntKind.i64 n35, Value.bool b36, Value.int IntKind.i64 n37, Value.slice p38 k39 k40, Value.int IntKind.i64 n694] w692))
                              (
                               LetI (IntKind.i64.wrap (n41 + (1 : Int))) fun n696 =>
                               ∃ k697 : Nat,
                               (
                                k697 < k42) ∧
                               I30 k697 [Value.slice p681 k682 k683, Value.int IntKind.i64 n35, Value.bool b36, Value.int IntKind.i64 n37, Value.slice p38 k39 k40, Value.int IntKind.i64 n696] w692))))
                        (
                         Ca Try.prog (18 : Nat) #[Value.pointer p25] w685 fun e698 w699 =>
                         ∃ n700 : Int,
                         (
                          e698 = Ending.returned (Value.int IntKind.i64 n700)) ∧
                         Br (decide (n700 > n37))
                          (
                           R (Ending.returned (Value.bool false)) w699)
                          (
                           Ca Try.prog (13 : Nat) #[Value.pointer p25] w699 fun e701 w702 =>
                           ∃ b703 : Bool,
                           (
                            e701 = Ending.returned (Value.bool b703)) ∧
                           Br (b703)
                            (
                             Br (!b687)
                              (
                               R (Ending.returned (Value.bool false)) w702)
                              (
                               LetI (IntKind.i64.wrap (n41 + (1 : Int))) fun n704 =>
                               ∃ k705 : Nat,
                               (
                                k705 < k42) ∧
                               I30 k705 [Value.slice p681 k682 k683, Value.int IntKind.i64 n35, Value.bool b36, Value.int IntKind.i64 n37, Value.slice p38 k39 k40, Value.int IntKind.i64 n704] w702))
                            (
                             LetI (IntKind.i64.wrap (n41 + (1 : Int))) fun n706 =>
                             ∃ k707 : Nat,
                             (
                              k707 < k42) ∧
                             I30 k707 [Value.slice p681 k682 k683, Value.int IntKind.i64 n35, Value.bool b36, Value.int IntKind.i64 n37, Value.slice p38 k39 k40, Value.int IntKind.i64 n706] w702))))
                      (
                       Ca Try.prog (12 : Nat) #[Value.pointer p29] w43 fun e708 w709 =>
                       ∃ s710 : ByteArray,
                       ∃ b711 : Bool,
                       (
                        e708 = Ending.returned (Value.tuple #[Value.string s710, Value.bool b711])) ∧
                       Br (b711)
                        (
                         Br (!s710.toList == s1.toList)
                          (
                           R (Ending.returned (Value.bool false)) w709)
                          (
                           Ca Try.prog (18 : Nat) #[Value.pointer p25] w709 fun e712 w713 =>
                           ∃ n714 : Int,
                           (
                            e712 = Ending.returned (Value.int IntKind.i64 n714)) ∧
                           Br (decide (n714 > n37))
                            (
                             R (Ending.returned (Value.bool false)) w713)
                            (
                             Ca Try.prog (13 : Nat) #[Value.pointer p25] w713 fun e715 w716 =>
                             ∃ b717 : Bool,
                             (
                              e715 = Ending.returned (Value.bool b717)) ∧
                             Br (b717)
                              (
                               Br (!b711)
                                (
                                 R (Ending.returned (Value.bool false)) w716)
                                (
                                 LetI (IntKind.i64.wrap (n41 + (1 : Int))) fun n718 =>
                                 ∃ k719 : Nat,
                                 (
                                  k719 < k42) ∧
                                 I30 k719 [Value.slice p32 k33 k34, Value.int IntKind.i64 n35, Value.bool b36, Value.int IntKind.i64 n37, Value.slice p38 k39 k40, Value.int IntKind.i64 n718] w716))
                              (
                               LetI (IntKind.i64.wrap (n41 + (1 : Int))) fun n720 =>
                               ∃ k721 : Nat,
                               (
                                k721 < k42) ∧
                               I30 k721 [Value.slice p32 k33 k34, Value.int IntKind.i64 n35, Value.bool b36, Value.int IntKind.i64 n37, Value.slice p38 k39 k40, Value.int IntKind.i64 n720] w716))))
                        (
                         Ca Try.prog (18 : Nat) #[Value.pointer p25] w709 fun e722 w723 =>
                         ∃ n724 : Int,
                         (
                          e722 = Ending.returned (Value.int IntKind.i64 n724)) ∧
                         Br (decide (n724 > n37))
                          (
                           R (Ending.returned (Value.bool false)) w723)
                          (
                           Ca Try.prog (13 : Nat) #[Value.pointer p25] w723 fun e725 w726 =>
                           ∃ b727 : Bool,
                           (
                            e725 = Ending.returned (Value.bool b727)) ∧
                           Br (b727)
                            (
                             Br (!b711)
                              (
                               R (Ending.returned (Value.bool false)) w726)
                              (
                               LetI (IntKind.i64.wrap (n41 + (1 : Int))) fun n728 =>
                               ∃ k729 : Nat,
                               (
                                k729 < k42) ∧
                               I30 k729 [Value.slice p32 k33 k34, Value.int IntKind.i64 n35, Value.bool b36, Value.int IntKind.i64 n37, Value.slice p38 k39 k40, Value.int IntKind.i64 n728] w726))
                            (
                             LetI (IntKind.i64.wrap (n41 + (1 : Int))) fun n730 =>
                             ∃ k731 : Nat,
                             (
                              k731 < k42) ∧
                             I30 k731 [Value.slice p32 k33 k34, Value.int IntKind.i64 n35, Value.bool b36, Value.int IntKind.i64 n37, Value.slice p38 k39 k40, Value.int IntKind.i64 n730] w726)))))
                    (
                     Br (n49 == (6 : Int))
                      (
                       Br (decide ((↑k39 : Int) > (0 : Int)))
                        (
                         (
                          (↑k39 : Int) ≠ (0 : Int)) ∧
                         LetI (n46.tmod (↑k39 : Int)) fun n732 =>
                         NilOk p38 fun a733 =>
                         (
                          (
                           (0 : Int) ≤ n732) ∧
                          n732 < (↑k39 : Int)) ∧
                         ∃ n734 : Int,
                         (
                          w43.cell? (a733.add (n732.toNat * (1 : Nat))) = some (Value.int IntKind.i64 n734)) ∧
                         Ca Try.prog (11 : Nat) #[Value.pointer p25, Value.int IntKind.i64 (7 : Int), Value.int IntKind.i64 n734] w43 fun e735 w736 =>
                         ∃ n737 : Int,
                         (
                          e735 = Ending.returned (Value.int IntKind.i64 n737)) ∧
                         Br (n737 != (0 : Int))
                          (
                           R (Ending.returned (Value.bool false)) w736)
                          (
                           Ca Try.prog (12 : Nat) #[Value.pointer p29] w736 fun e738 w739 =>
                           ∃ s740 : ByteArray,
                           ∃ b741 : Bool,
                           (
                            e738 = Ending.returned (Value.tuple #[Value.string s740, Value.bool b741])) ∧
                           Br (b741)
                            (
                             Br (!s740.toList == s1.toList)
                              (
                               R (Ending.returned (Value.bool false)) w739)
                              (
                               Ca Try.prog (18 : Nat) #[Value.pointer p25] w739 fun e742 w743 =>
                               ∃ n744 : Int,
                               (
                                e742 = Ending.returned (Value.int IntKind.i64 n744)) ∧
                               Br (decide (n744 > n37))
                                (
                                 R (Ending.returned (Value.bool false)) w743)
                                (
                                 Ca Try.prog (13 : Nat) #[Value.pointer p25] w743 fun e745 w746 =>
                                 ∃ b747 : Bool,
                                 (
                                  e745 = Ending.returned (Value.bool b747)) ∧
                                 Br (b747)
                                  (
                                   Br (!b741)
                                    (
                                     R (Ending.returned (Value.bool false)) w746)
                                    (
                                     LetI (IntKind.i64.wrap (n41 + (1 : Int))) fun n748 =>
                                     ∃ k749 : Nat,
                                     (
                                      k749 < k42) ∧
                                     I30 k749 [Value.slice p32 k33 k34, Value.int IntKind.i64 n35, Value.bool b36, Value.int IntKind.i64 n37, Value.slice p38 k39 k40, Value.int IntKind.i64 n748] w746))
                                  (
                                   LetI (IntKind.i64.wrap (n41 + (1 : Int))) fun n750 =>
                                   ∃ k751 : Nat,
                                   (
                                    k751 < k42) ∧
                                   I30 k751 [Value.slice p32 k33 k34, Value.int IntKind.i64 n35, Value.bool b36, Value.int IntKind.i64 n37, Value.slice p38 k39 k40, Value.int IntKind.i64 n750] w746))))
                            (
                             Ca Try.prog (18 : Nat) #[Value.pointer p25] w739 fun e752 w753 =>
                             ∃ n754 : Int,
                             (
                              e752 = Ending.returned (Value.int IntKind.i64 n754)) ∧
                             Br (decide (n754 > n37))
                              (
                               R (Ending.returned (Value.bool false)) w753)
                              (
                               Ca Try.prog (13 : Nat) #[Value.pointer p25] w753 fun e755 w756 =>
                               ∃ b757 : Bool,
                               (
                                e755 = Ending.returned (Value.bool b757)) ∧
                               Br (b757)
                                (
                                 Br (!b741)
                                  (
                                   R (Ending.returned (Value.bool false)) w756)
                                  (
                                   LetI (IntKind.i64.wrap (n41 + (1 : Int))) fun n758 =>
                                   ∃ k759 : Nat,
                                   (
                                    k759 < k42) ∧
                                   I30 k759 [Value.slice p32 k33 k34, Value.int IntKind.i64 n35, Value.bool b36, Value.int IntKind.i64 n37, Value.slice p38 k39 k40, Value.int IntKind.i64 n758] w756))
                                (
                                 LetI (IntKind.i64.wrap (n41 + (1 : Int))) fun n760 =>
                                 ∃ k761 : Nat,
                                 (
                                  k761 < k42) ∧
                                 I30 k761 [Value.slice p32 k33 k34, Value.int IntKind.i64 n35, Value.bool b36, Value.int IntKind.i64 n37, Value.slice p38 k39 k40, Value.int IntKind.i64 n760] w756)))))
                        (
                         Ca Try.prog (12 : Nat) #[Value.pointer p29] w43 fun e762 w763 =>
                         ∃ s764 : ByteArray,
                         ∃ b765 : Bool,
                         (
                          e762 = Ending.returned (Value.tuple #[Value.string s764, Value.bool b765])) ∧
                         Br (b765)
                          (
                           Br (!s764.toList == s1.toList)
                            (
                             R (Ending.returned (Value.bool false)) w763)
                            (
                             Ca Try.prog (18 : Nat) #[Value.pointer p25] w763 fun e766 w767 =>
                             ∃ n768 : Int,
                             (
                              e766 = Ending.returned (Value.int IntKind.i64 n768)) ∧
                             Br (decide (n768 > n37))
                              (
                               R (Ending.returned (Value.bool false)) w767)
                              (
                               Ca Try.prog (13 : Nat) #[Value.pointer p25] w767 fun e769 w770 =>
                               ∃ b771 : Bool,
                               (
                                e769 = Ending.returned (Value.bool b771)) ∧
                               Br (b771)
                                (
                                 Br (!b765)
                                  (
                                   R (Ending.returned (Value.bool false)) w770)
                                  (
                                   LetI (IntKind.i64.wrap (n41 + (1 : Int))) fun n772 =>
                                   ∃ k773 : Nat,
                                   (
                                    k773 < k42) ∧
                                   I30 k773 [Value.slice p32 k33 k34, Value.int IntKind.i64 n35, Value.bool b36, Value.int IntKind.i64 n37, Value.slice p38 k39 k40, Value.int IntKind.i64 n772] w770))
                                (
                                 LetI (IntKind.i64.wrap (n41 + (1 : Int))) fun n774 =>
                                 ∃ k775 : Nat,
                                 (
                                  k775 < k42) ∧
                                 I30 k775 [Value.slice p32 k33 k34, Value.int IntKind.i64 n35, Value.bool b36, Value.int IntKind.i64 n37, Value.slice p38 k39 k40, Value.int IntKind.i64 n774] w770))))
                          (
                           Ca Try.prog (18 : Nat) #[Value.pointer p25] w763 fun e776 w777 =>
                           ∃ n778 : Int,
                           (
                            e776 = Ending.returned (Value.int IntKind.i64 n778)) ∧
                           Br (decide (n778 > n37))
                            (
                             R (Ending.returned (Value.bool false)) w777)
                            (
                             Ca Try.prog (13 : Nat) #[Value.pointer p25] w777 fun e779 w780 =>
                             ∃ b781 : Bool,
                             (
                              e779 = Ending.returned (Value.bool b781)) ∧
                             Br (b781)
                              (
                               Br (!b765)
                                (
                                 R (Ending.returned (Value.bool false)) w780)
                                (
                                 LetI (IntKind.i64.wrap (n41 + (1 : Int))) fun n782 =>
                                 ∃ k783 : Nat,
                                 (
                                  k783 < k42) ∧
                                 I30 k783 [Value.slice p32 k33 k34, Value.int IntKind.i64 n35, Value.bool b36, Value.int IntKind.i64 n37, Value.slice p38 k39 k40, Value.int IntKind.i64 n782] w780))
                              (
                               LetI (IntKind.i64.wrap (n41 + (1 : Int))) fun n784 =>
                               ∃ k785 : Nat,
                               (
                                k785 < k42) ∧
                               I30 k785 [Value.slice p32 k33 k34, Value.int IntKind.i64 n35, Value.bool b36, Value.int IntKind.i64 n37, Value.slice p38 k39 k40, Value.int IntKind.i64 n784] w780)))))
                      (
                       Ca Try.prog (16 : Nat) #[Value.pointer p25] w43 fun e786 w787 =>
                       (
                        e786 = Ending.returned (Value.tuple #[])) ∧
                       Ca Try.prog (12 : Nat) #[Value.pointer p29] w787 fun e788 w789 =>
                       ∃ s790 : ByteArray,
                       ∃ b791 : Bool,
                       (
                        e788 = Ending.returned (Value.tuple #[Value.string s790, Value.bool b791])) ∧
                       Br (b791)
                        (
                         Br (!s790.toList == s1.toList)
                          (
                           R (Ending.returned (Value.bool false)) w789)
                          (
                           Ca Try.prog (18 : Nat) #[Value.pointer p25] w789 fun e792 w793 =>
                           ∃ n794 : Int,
                           (
                            e792 = Ending.returned (Value.int IntKind.i64 n794)) ∧
                           Br (decide (n794 > n37))
                            (
                             R (Ending.returned (Value.bool false)) w793)
                            (
                             Ca Try.prog (13 : Nat) #[Value.pointer p25] w793 fun e795 w796 =>
                             ∃ b797 : Bool,
                             (
                              e795 = Ending.returned (Value.bool b797)) ∧
                             Br (b797)
                              (
                               Br (!b791)
                                (
                                 R (Ending.returned (Value.bool false)) w796)
                                (
                                 LetI (IntKind.i64.wrap (n41 + (1 : Int))) fun n798 =>
                                 ∃ k799 : Nat,
                                 (
                                  k799 < k42) ∧
                                 I30 k799 [Value.slice p32 k33 k34, Value.int IntKind.i64 n35, Value.bool b36, Value.int IntKind.i64 n37, Value.slice p38 k39 k40, Value.int IntKind.i64 n798] w796))
                              (
                               LetI (IntKind.i64.wrap (n41 + (1 : Int))) fun n800 =>
                               ∃ k801 : Nat,
                               (
                                k801 < k42) ∧
                               I30 k801 [Value.slice p32 k33 k34, Value.int IntKind.i64 n35, Value.bool b36, Value.int IntKind.i64 n37, Value.slice p38 k39 k40, Value.int IntKind.i64 n800] w796))))
                        (
                         Ca Try.prog (18 : Nat) #[Value.pointer p25] w789 fun e802 w803 =>
                         ∃ n804 : Int,
                         (
                          e802 = Ending.returned (Value.int IntKind.i64 n804)) ∧
                         Br (decide (n804 > n37))
                          (
                           R (Ending.returned (Value.bool false)) w803)
                          (
                           Ca Try.prog (13 : Nat) #[Value.pointer p25] w803 fun e805 w806 =>
                           ∃ b807 : Bool,
                           (
                            e805 = Ending.returned (Value.bool b807)) ∧
                           Br (b807)
                            (
                             Br (!b791)
                              (
                               R (Ending.returned (Value.bool false)) w806)
                              (
                               LetI (IntKind.i64.wrap (n41 + (1 : Int))) fun n808 =>
                               ∃ k809 : Nat,
                               (
                                k809 < k42) ∧
                               I30 k809 [Value.slice p32 k33 k34, Value.int IntKind.i64 n35, Value.bool b36, Value.int IntKind.i64 n37, Value.slice p38 k39 k40, Value.int IntKind.i64 n808] w806))
                            (
                             LetI (IntKind.i64.wrap (n41 + (1 : Int))) fun n810 =>
                             ∃ k811 : Nat,
                             (
                              k811 < k42) ∧
                             I30 k811 [Value.slice p32 k33 k34, Value.int IntKind.i64 n35, Value.bool b36, Value.int IntKind.i64 n37, Value.slice p38 k39 k40, Value.int IntKind.i64 n810] w806)))))))
                (
                 Br (n49 == (4 : Int))
                  (
                   Br (decide ((↑k33 : Int) > (0 : Int)))
                    (
                     (
                      (↑k33 : Int) ≠ (0 : Int)) ∧
                     LetI (n46.tmod (↑k33 : Int)) fun n812 =>
                     NilOk p32 fun a813 =>
                     (
                      (
                       (0 : Int) ≤ n812) ∧
                      n812 < (↑k33 : Int)) ∧
                     ∃ n814 : Int,
                     ∃ n815 : Int,
                     ∃ n816 : Int,
                     ∃ s817 : ByteArray,
                     (
                      Row w43 (a813.add (n812.toNat * (4 : Nat))) (0 : Nat) [Value.int IntKind.i64 n814, Value.int IntKind.i64 n815, Value.int IntKind.i64 n816, Value.string s817]) ∧
                     Ca Try.prog (10 : Nat) #[Value.pointer p29, Value.agg #[Value.int IntKind.i64 n814, Value.int IntKind.i64 n815, Value.int IntKind.i64 n816, Value.string s817]] w43 fun e818 w819 =>
                     ∃ n820 : Int,
                     ∃ n821 : Int,
                     (
                      e818 = Ending.returned (Value.tuple #[Value.int IntKind.i64 n820, Value.int IntKind.i64 n821])) ∧
                     Br (n820 != (7 : Int))
                      (
                       R (Ending.returned (Value.bool false)) w819)
                      (
                       Br (decide (n821 < n37))
                        (
                         R (Ending.returned (Value.bool false)) w819)
                        (
                         LetI (IntKind.i64.wrap (n37 + (1 : Int))) fun n822 =>
                         Br (decide (n821 > n822))
                          (
                           R (Ending.returned (Value.bool false)) w819)
                          (
                           Br (decide (n821 > n35))
                            (
                             R (Ending.returned (Value.bool false)) w819)
                            (
                             LetA (Obj.cells #[Value.int IntKind.i64 n821] (3 : Nat)) w819 fun b823 w824 =>
                             RunsV Try.prog (Builtin.append_ #[(57 : Nat), (57 : Nat)] (57 : Nat) #[Value.slice p38 k39 k40, Value.slice (some { block := b823, off := (0 : Nat) }) (1 : Nat) (1 : Nat)]) w824 fun v825 w826 =>
                             ∃ p827 : Option Addr,
                             ∃ k828 : Nat,
                             ∃ k829 : Nat,
                             (
                              v825 = Value.slice p827 k828 k829) ∧
                             Ca Try.prog (12 : Nat) #[Value.pointer p29] w826 fun e830 w831 =>
                             ∃ s832 : ByteArray,
                             ∃ b833 : Bool,
                             (
                              e830 = Ending.returned (Value.tuple #[Value.string s832, Value.bool b833])) ∧
                             Br (b833)
                              (
                               Br (!s832.toList == s1.toList)
                                (
                                 R (Ending.returned (Value.bool false)) w831)
                                (
                                 Ca Try.prog (18 : Nat) #[Value.pointer p25] w831 fun e834 w835 =>
                                 ∃ n836 : Int,
                                 (
                                  e834 = Ending.returned (Value.int IntKind.i64 n836)) ∧
                                 Br (decide (n836 > n821))
                                  (
                                   R (Ending.returned (Value.bool false)) w835)
                                  (
                                   Ca Try.prog (13 : Nat) #[Value.pointer p25] w835 fun e837 w838 =>
                                   ∃ b839 : Bool,
                                   (
                                    e837 = Ending.returned (Value.bool b839)) ∧
                                   Br (b839)
                                    (
                                     Br (!b833)
                                      (
                                       R (Ending.returned (Value.bool false)) w838)
                                      (
                                       LetI (IntKind.i64.wrap (n41 + (1 : Int))) fun n840 =>
                                       ∃ k841 : Nat,
                                       (
                                        k841 < k42) ∧
                                       I30 k841 [Value.slice p32 k33 k34, Value.int IntKind.i64 n35, Value.bool b36, Value.int IntKind.i64 n821, Value.slice p827 k828 k829, Value.int IntKind.i64 n840] w838))
                                    (
                                     LetI (IntKind.i64.wrap (n41 + (1 : Int))) fun n842 =>
                                     ∃ k843 : Nat,
                                     (
                                      k843 < k42) ∧
                                     I30 k843 [Value.slice p32 k33 k34, Value.int IntKind.i64 n35, Value.bool b36, Value.int IntKind.i64 n821, Value.slice p827 k828 k829, Value.int IntKind.i64 n842] w838))))
                              (
                               Ca Try.prog (18 : Nat) #[Value.pointer p25] w831 fun e844 w845 =>
                               ∃ n846 : Int,
                               (
                                e844 = Ending.returned (Value.int IntKind.i64 n846)) ∧
                               Br (decide (n846 > n821))
                                (
                                 R (Ending.returned (Value.bool false)) w845)
                                (
                                 Ca Try.prog (13 : Nat) #[Value.pointer p25] w845 fun e847 w848 =>
                                 ∃ b849 : Bool,
                                 (
                                  e847 = Ending.returned (Value.bool b849)) ∧
                                 Br (b849)
                                  (
                                   Br (!b833)
                                    (
                                     R (Ending.returned (Value.bool false)) w848)
                                    (
                                     LetI (IntKind.i64.wrap (n41 + (1 : Int))) fun n850 =>
                                     ∃ k851 : Nat,
                                     (
                                      k851 < k42) ∧
                                     I30 k851 [Value.slice p32 k33 k34, Value.int IntKind.i64 n35, Value.bool b36, Value.int IntKind.i64 n821, Value.slice p827 k828 k829, Value.int IntKind.i64 n850] w848))
                                  (
                                   LetI (IntKind.i64.wrap (n41 + (1 : Int))) fun n852 =>
                                   ∃ k853 : Nat,
                                   (
                                    k853 < k42) ∧
                                   I30 k853 [Value.slice p32 k33 k34, Value.int IntKind.i64 n35, Value.bool b36, Value.int IntKind.i64 n821, Value.slice p827 k828 k829, Value.int IntKind.i64 n852] w848))))))))
                    (
                     Ca Try.prog (12 : Nat) #[Value.pointer p29] w43 fun e854 w855 =>
                     ∃ s856 : ByteArray,
                     ∃ b857 : Bool,
                     (
                      e854 = Ending.returned (Value.tuple #[Value.string s856, Value.bool b857])) ∧
                     Br (b857)
                      (
                       Br (!s856.toList == s1.toList)
                        (
                         R (Ending.returned (Value.bool false)) w855)
                        (
                         Ca Try.prog (18 : Nat) #[Value.pointer p25] w855 fun e858 w859 =>
                         ∃ n860 : Int,
                         (
                          e858 = Ending.returned (Value.int IntKind.i64 n860)) ∧
                         Br (decide (n860 > n37))
                          (
                           R (Ending.returned (Value.bool false)) w859)
                          (
                           Ca Try.prog (13 : Nat) #[Value.pointer p25] w859 fun e861 w862 =>
                           ∃ b863 : Bool,
                           (
                            e861 = Ending.returned (Value.bool b863)) ∧
                           Br (b863)
                            (
                             Br (!b857)
                              (
                               R (Ending.returned (Value.bool false)) w862)
                              (
                               LetI (IntKind.i64.wrap (n41 + (1 : Int))) fun n864 =>
                               ∃ k865 : Nat,
                               (
                                k865 < k42) ∧
                               I30 k865 [Value.slice p32 k33 k34, Value.int IntKind.i64 n35, Value.bool b36, Value.int IntKind.i64 n37, Value.slice p38 k39 k40, Value.int IntKind.i64 n864] w862))
                            (
                             LetI (IntKind.i64.wrap (n41 + (1 : Int))) fun n866 =>
                             ∃ k867 : Nat,
                             (
                              k867 < k42) ∧
                             I30 k867 [Value.slice p32 k33 k34, Value.int IntKind.i64 n35, Value.bool b36, Value.int IntKind.i64 n37, Value.slice p38 k39 k40, Value.int IntKind.i64 n866] w862))))
                      (
                       Ca Try.prog (18 : Nat) #[Value.pointer p25] w855 fun e868 w869 =>
                       ∃ n870 : Int,
                       (
                        e868 = Ending.returned (Value.int IntKind.i64 n870)) ∧
                       Br (decide (n870 > n37))
                        (
                         R (Ending.returned (Value.bool false)) w869)
                        (
                         Ca Try.prog (13 : Nat) #[Value.pointer p25] w869 fun e871 w872 =>
                         ∃ b873 : Bool,
                         (
                          e871 = Ending.returned (Value.bool b873)) ∧
                         Br (b873)
                          (
                           Br (!b857)
                            (
                             R (Ending.returned (Value.bool false)) w872)
                            (
                             LetI (IntKind.i64.wrap (n41 + (1 : Int))) fun n874 =>
                             ∃ k875 : Nat,
                             (
                              k875 < k42) ∧
                             I30 k875 [Value.slice p32 k33 k34, Value.int IntKind.i64 n35, Value.bool b36, Value.int IntKind.i64 n37, Value.slice p38 k39 k40, Value.int IntKind.i64 n874] w872))
                          (
                           LetI (IntKind.i64.wrap (n41 + (1 : Int))) fun n876 =>
                           ∃ k877 : Nat,
                           (
                            k877 < k42) ∧
                           I30 k877 [Value.slice p32 k33 k34, Value.int IntKind.i64 n35, Value.bool b36, Value.int IntKind.i64 n37, Value.slice p38 k39 k40, Value.int IntKind.i64 n876] w872)))))
                  (
                   Br (n49 == (5 : Int))
                    (
                     Br (decide ((↑k33 : Int) > (0 : Int)))
                      (
                       (
                        (↑k33 : Int) ≠ (0 : Int)) ∧
                       LetI (n46.tmod (↑k33 : Int)) fun n878 =>
                       (
                        (
                         (0 : Int) ≤ (0 : Int)) ∧
                        (
                         (0 : Int) ≤ n878) ∧
                        (
                         n878 ≤ (↑k34 : Int)) ∧
                        (
                         (↑k34 : Int) ≤ (↑k34 : Int)) ∧
                        (
                         (
                          false = true) →
                         true = true)) ∧
                       LetI (IntKind.i64.wrap (n878 + (1 : Int))) fun n879 =>
                       (
                        (
                         (0 : Int) ≤ n879) ∧
                        (
                         n879 ≤ (↑k33 : Int)) ∧
                        (
                         (↑k33 : Int) ≤ (↑k34 : Int)) ∧
                        (
                         (↑k34 : Int) ≤ (↑k34 : Int)) ∧
                        (
                         (
                          false = true) →
                         false = true)) ∧
                       RunsV Try.prog (Builtin.append_ #[(56 : Nat), (56 : Nat)] (56 : Nat) #[Value.slice none (0 : Nat) (0 : Nat), Value.slice (if (↑k34 : Int).toNat = Int.toNat (0 : Int) then p32 else Option.map (fun x => x.add (Int.toNat (0 : Int) * sizeT Try.prog (32 : Nat))) p32) (n878.toNat - (0 : Nat)) ((↑k34 : Int).toNat - (0 : Nat))]) w43 fun v880 w881 =>
                       ∃ p882 : Option Addr,
                       ∃ k883 : Nat,
                       ∃ k884 : Nat,
                       (
                        v880 = Value.slice p882 k883 k884) ∧
                       RunsV Try.prog (Builtin.append_ #[(56 : Nat), (56 : Nat)] (56 : Nat) #[Value.slice p882 k883 k884, Value.slice (if (↑k34 : Int).toNat = n879.toNat then p32 else Option.map (fun x => x.add (n879.toNat * sizeT Try.prog (32 : Nat))) p32) ((↑k33 : Int).toNat - n879.toNat) ((↑k34 : Int).toNat - n879.toNat)]) w881 fun v885 w886 =>
                       ∃ p887 : Option Addr,
                       ∃ k888 : Nat,
                       ∃ k889 : Nat,
                       (
                        v885 = Value.slice p887 k888 k889) ∧
                       Ca Try.prog (12 : Nat) #[Value.pointer p29] w886 fun e890 w891 =>
                       ∃ s892 : ByteArray,
                       ∃ b893 : Bool,
                       (
                        e890 = Ending.returned (Value.tuple #[Value.string s892, Value.bool b893])) ∧
                       Br (b893)
                        (
                         Br (!s892.toList == s1.toList)
                          (
                           R (Ending.returned (Value.bool false)) w891)
                          (
                           Ca Try.prog (18 : Nat) #[Value.pointer p25] w891 fun e894 w895 =>
                           ∃ n896 : Int,
                           (
                            e894 = Ending.returned (Value.int IntKind.i64 n896)) ∧
                           Br (decide (n896 > n37))
                            (
                             R (Ending.returned (Value.bool false)) w895)
                            (
                             Ca Try.prog (13 : Nat) #[Value.pointer p25] w895 fun e897 w898 =>
                             ∃ b899 : Bool,
                             (
                              e897 = Ending.returned (Value.bool b899)) ∧
                             Br (b899)
                              (
                               Br (!b893)
                                (
                                 R (Ending.returned (Value.bool false)) w898)
                                (
                                 LetI (IntKind.i64.wrap (n41 + (1 : Int))) fun n900 =>
                                 ∃ k901 : Nat,
                                 (
                                  k901 < k42) ∧
                                 I30 k901 [Value.slice p887 k888 k889, Value.int IntKind.i64 n35, Value.bool b36, Value.int IntKind.i64 n37, Value.slice p38 k39 k40, Value.int IntKind.i64 n900] w898))
                              (
                               LetI (IntKind.i64.wrap (n41 + (1 : Int))) fun n902 =>
                               ∃ k903 : Nat,
                               (
                                k903 < k42) ∧
                               I30 k903 [Value.slice p887 k888 k889, Value.int IntKind.i64 n35, Value.bool b36, Value.int IntKind.i64 n37, Value.slice p38 k39 k40, Value.int IntKind.i64 n902] w898))))
                        (
                         Ca Try.prog (18 : Nat) #[Value.pointer p25] w891 fun e904 w905 =>
                         ∃ n906 : Int,
                         (
                          e904 = Ending.returned (Value.int IntKind.i64 n906)) ∧
                         Br (decide (n906 > n37))
                          (
                           R (Ending.returned (Value.bool false)) w905)
                          (
                           Ca Try.prog (13 : Nat) #[Value.pointer p25] w905 fun e907 w908 =>
                           ∃ b909 : Bool,
                           (
                            e907 = Ending.returned (Value.bool b909)) ∧
                           Br (b909)
                            (
                             Br (!b893)
                              (
                               R (Ending.returned (Value.bool false)) w908)
                              (
                               LetI (IntKind.i64.wrap (n41 + (1 : Int))) fun n910 =>
                               ∃ k911 : Nat,
                               (
                                k911 < k42) ∧
                               I30 k911 [Value.slice p887 k888 k889, Value.int IntKind.i64 n35, Value.bool b36, Value.int IntKind.i64 n37, Value.slice p38 k39 k40, Value.int IntKind.i64 n910] w908))
                            (
                             LetI (IntKind.i64.wrap (n41 + (1 : Int))) fun n912 =>
                             ∃ k913 : Nat,
                             (
                              k913 < k42) ∧
                             I30 k913 [Value.slice p887 k888 k889, Value.int IntKind.i64 n35, Value.bool b36, Value.int IntKind.i64 n37, Value.slice p38 k39 k40, Value.int IntKind.i64 n912] w908))))
                      (
                       Ca Try.prog (12 : Nat) #[Value.pointer p29] w43 fun e914 w915 =>
                       ∃ s916 : ByteArray,
                       ∃ b917 : Bool,
                       (
                        e914 = Ending.returned (Value.tuple #[Value.string s916, Value.bool b917])) ∧
                       Br (b917)
                        (
                         Br (!s916.toList == s1.toList)
                          (
                           R (Ending.returned (Value.bool false)) w915)
                          (
                           Ca Try.prog (18 : Nat) #[Value.pointer p25] w915 fun e918 w919 =>
                           ∃ n920 : Int,
                           (
                            e918 = Ending.returned (Value.int IntKind.i64 n920)) ∧
                           Br (decide (n920 > n37))
                            (
                             R (Ending.returned (Value.bool false)) w919)
                            (
                             Ca Try.prog (13 : Nat) #[Value.pointer p25] w919 fun e921 w922 =>
                             ∃ b923 : Bool,
                             (
                              e921 = Ending.returned (Value.bool b923)) ∧
                             Br (b923)
                              (
                               Br (!b917)
                                (
                                 R (Ending.returned (Value.bool false)) w922)
                                (
                                 LetI (IntKind.i64.wrap (n41 + (1 : Int))) fun n924 =>
                                 ∃ k925 : Nat,
                                 (
                                  k925 < k42) ∧
                                 I30 k925 [Value.slice p32 k33 k34, Value.int IntKind.i64 n35, Value.bool b36, Value.int IntKind.i64 n37, Value.slice p38 k39 k40, Value.int IntKind.i64 n924] w922))
                              (
                               LetI (IntKind.i64.wrap (n41 + (1 : Int))) fun n926 =>
                               ∃ k927 : Nat,
                               (
                                k927 < k42) ∧
                               I30 k927 [Value.slice p32 k33 k34, Value.int IntKind.i64 n35, Value.bool b36, Value.int IntKind.i64 n37, Value.slice p38 k39 k40, Value.int IntKind.i64 n926] w922))))
                        (
                         Ca Try.prog (18 : Nat) #[Value.pointer p25] w915 fun e928 w929 =>
                         ∃ n930 : Int,
                         (
                          e928 = Ending.returned (Value.int IntKind.i64 n930)) ∧
                         Br (decide (n930 > n37))
                          (
                           R (Ending.returned (Value.bool false)) w929)
                          (
                           Ca Try.prog (13 : Nat) #[Value.pointer p25] w929 fun e931 w932 =>
                           ∃ b933 : Bool,
                           (
                            e931 = Ending.returned (Value.bool b933)) ∧
                           Br (b933)
                            (
                             Br (!b917)
                              (
                               R (Ending.returned (Value.bool false)) w932)
                              (
                               LetI (IntKind.i64.wrap (n41 + (1 : Int))) fun n934 =>
                               ∃ k935 : Nat,
                               (
                                k935 < k42) ∧
                               I30 k935 [Value.slice p32 k33 k34, Value.int IntKind.i64 n35, Value.bool b36, Value.int IntKind.i64 n37, Value.slice p38 k39 k40, Value.int IntKind.i64 n934] w932))
                            (
                             LetI (IntKind.i64.wrap (n41 + (1 : Int))) fun n936 =>
                             ∃ k937 : Nat,
                             (
                              k937 < k42) ∧
                             I30 k937 [Value.slice p32 k33 k34, Value.int IntKind.i64 n35, Value.bool b36, Value.int IntKind.i64 n37, Value.slice p38 k39 k40, Value.int IntKind.i64 n936] w932)))))
                    (
                     Br (n49 == (6 : Int))
                      (
                       Br (decide ((↑k39 : Int) > (0 : Int)))
                        (
                         (
                          (↑k39 : Int) ≠ (0 : Int)) ∧
                         LetI (n46.tmod (↑k39 : Int)) fun n938 =>
                         NilOk p38 fun a939 =>
                         (
                          (
                           (0 : Int) ≤ n938) ∧
                          n938 < (↑k39 : Int)) ∧
                         ∃ n940 : Int,
                         (
                          w43.cell? (a939.add (n938.toNat * (1 : Nat))) = some (Value.int IntKind.i64 n940)) ∧
                         Ca Try.prog (11 : Nat) #[Value.pointer p25, Value.int IntKind.i64 (7 : Int), Value.int IntKind.i64 n940] w43 fun e941 w942 =>
                         ∃ n943 : Int,
                         (
                          e941 = Ending.returned (Value.int IntKind.i64 n943)) ∧
                         Br (n943 != (0 : Int))
                          (
                           R (Ending.returned (Value.bool false)) w942)
                          (
                           Ca Try.prog (12 : Nat) #[Value.pointer p29] w942 fun e944 w945 =>
                           ∃ s946 : ByteArray,
                           ∃ b947 : Bool,
                           (
                            e944 = Ending.returned (Value.tuple #[Value.string s946, Value.bool b947])) ∧
                           Br (b947)
                            (
                             Br (!s946.toList == s1.toList)
                              (
                               R (Ending.returned (Value.bool false)) w945)
                              (
                               Ca Try.prog (18 : Nat) #[Value.pointer p25] w945 fun e948 w949 =>
                               ∃ n950 : Int,
                               (
                                e948 = Ending.returned (Value.int IntKind.i64 n950)) ∧
                               Br (decide (n950 > n37))
                                (
                                 R (Ending.returned (Value.bool false)) w949)
                                (
                                 Ca Try.prog (13 : Nat) #[Value.pointer p25] w949 fun e951 w952 =>
                                 ∃ b953 : Bool,
                                 (
                                  e951 = Ending.returned (Value.bool b953)) ∧
                                 Br (b953)
                                  (
                                   Br (!b947)
                                    (
                                     R (Ending.returned (Value.bool false)) w952)
                                    (
                                     LetI (IntKind.i64.wrap (n41 + (1 : Int))) fun n954 =>
                                     ∃ k955 : Nat,
                                     (
                                      k955 < k42) ∧
                                     I30 k955 [Value.slice p32 k33 k34, Value.int IntKind.i64 n35, Value.bool b36, Value.int IntKind.i64 n37, Value.slice p38 k39 k40, Value.int IntKind.i64 n954] w952))
                                  (
                                   LetI (IntKind.i64.wrap (n41 + (1 : Int))) fun n956 =>
                                   ∃ k957 : Nat,
                                   (
                                    k957 < k42) ∧
                                   I30 k957 [Value.slice p32 k33 k34, Value.int IntKind.i64 n35, Value.bool b36, Value.int IntKind.i64 n37, Value.slice p38 k39 k40, Value.int IntKind.i64 n956] w952))))
                            (
                             Ca Try.prog (18 : Nat) #[Value.pointer p25] w945 fun e958 w959 =>
                             ∃ n960 : Int,
                             (
                              e958 = Ending.returned (Value.int IntKind.i64 n960)) ∧
                             Br (decide (n960 > n37))
                              (
                               R (Ending.returned (Value.bool false)) w959)
                              (
                               Ca Try.prog (13 : Nat) #[Value.pointer p25] w959 fun e961 w962 =>
                               ∃ b963 : Bool,
                               (
                                e961 = Ending.returned (Value.bool b963)) ∧
                               Br (b963)
                                (
                                 Br (!b947)
                                  (
                                   R (Ending.returned (Value.bool false)) w962)
                                  (
                                   LetI (IntKind.i64.wrap (n41 + (1 : Int))) fun n964 =>
                                   ∃ k965 : Nat,
                                   (
                                    k965 < k42) ∧
                                   I30 k965 [Value.slice p32 k33 k34, Value.int IntKind.i64 n35, Value.bool b36, Value.int IntKind.i64 n37, Value.slice p38 k39 k40, Value.int IntKind.i64 n964] w962))
                                (
                                 LetI (IntKind.i64.wrap (n41 + (1 : Int))) fun n966 =>
                                 ∃ k967 : Nat,
                                 (
                                  k967 < k42) ∧
                                 I30 k967 [Value.slice p32 k33 k34, Value.int IntKind.i64 n35, Value.bool b36, Value.int IntKind.i64 n37, Value.slice p38 k39 k40, Value.int IntKind.i64 n966] w962)))))
                        (
                         Ca Try.prog (12 : Nat) #[Value.pointer p29] w43 fun e968 w969 =>
                         ∃ s970 : ByteArray,
                         ∃ b971 : Bool,
                         (
                          e968 = Ending.returned (Value.tuple #[Value.string s970, Value.bool b971])) ∧
                         Br (b971)
                          (
                           Br (!s970.toList == s1.toList)
                            (
                             R (Ending.returned (Value.bool false)) w969)
                            (
                             Ca Try.prog (18 : Nat) #[Value.pointer p25] w969 fun e972 w973 =>
                             ∃ n974 : Int,
                             (
                              e972 = Ending.returned (Value.int IntKind.i64 n974)) ∧
                             Br (decide (n974 > n37))
                              (
                               R (Ending.returned (Value.bool false)) w973)
                              (
                               Ca Try.prog (13 : Nat) #[Value.pointer p25] w973 fun e975 w976 =>
                               ∃ b977 : Bool,
                               (
                                e975 = Ending.returned (Value.bool b977)) ∧
                               Br (b977)
                                (
                                 Br (!b971)
                                  (
                                   R (Ending.returned (Value.bool false)) w976)
                                  (
                                   LetI (IntKind.i64.wrap (n41 + (1 : Int))) fun n978 =>
                                   ∃ k979 : Nat,
                                   (
                                    k979 < k42) ∧
                                   I30 k979 [Value.slice p32 k33 k34, Value.int IntKind.i64 n35, Value.bool b36, Value.int IntKind.i64 n37, Value.slice p38 k39 k40, Value.int IntKind.i64 n978] w976))
                                (
                                 LetI (IntKind.i64.wrap (n41 + (1 : Int))) fun n980 =>
                                 ∃ k981 : Nat,
                                 (
                                  k981 < k42) ∧
                                 I30 k981 [Value.slice p32 k33 k34, Value.int IntKind.i64 n35, Value.bool b36, Value.int IntKind.i64 n37, Value.slice p38 k39 k40, Value.int IntKind.i64 n980] w976))))
                          (
                           Ca Try.prog (18 : Nat) #[Value.pointer p25] w969 fun e982 w983 =>
                           ∃ n984 : Int,
                           (
                            e982 = Ending.returned (Value.int IntKind.i64 n984)) ∧
                           Br (decide (n984 > n37))
                            (
                             R (Ending.returned (Value.bool false)) w983)
                            (
                             Ca Try.prog (13 : Nat) #[Value.pointer p25] w983 fun e985 w986 =>
                             ∃ b987 : Bool,
                             (
                              e985 = Ending.returned (Value.bool b987)) ∧
                             Br (b987)
                              (
                               Br (!b971)
                                (
                                 R (Ending.returned (Value.bool false)) w986)
                                (
                                 LetI (IntKind.i64.wrap (n41 + (1 : Int))) fun n988 =>
                                 ∃ k989 : Nat,
                                 (
                                  k989 < k42) ∧
                                 I30 k989 [Value.slice p32 k33 k34, Value.int IntKind.i64 n35, Value.bool b36, Value.int IntKind.i64 n37, Value.slice p38 k39 k40, Value.int IntKind.i64 n988] w986))
                              (
                               LetI (IntKind.i64.wrap (n41 + (1 : Int))) fun n990 =>
                               ∃ k991 : Nat,
                               (
                                k991 < k42) ∧
                               I30 k991 [Value.slice p32 k33 k34, Value.int IntKind.i64 n35, Value.bool b36, Value.int IntKind.i64 n37, Value.slice p38 k39 k40, Value.int IntKind.i64 n990] w986)))))
                      (
                       Ca Try.prog (16 : Nat) #[Value.pointer p25] w43 fun e992 w993 =>
                       (
                        e992 = Ending.returned (Value.tuple #[])) ∧
                       Ca Try.prog (12 : Nat) #[Value.pointer p29] w993 fun e994 w995 =>
                       ∃ s996 : ByteArray,
                       ∃ b997 : Bool,
                       (
                        e994 = Ending.returned (Value.tuple #[Value.string s996, Value.bool b997])) ∧
                       Br (b997)
                        (
                         Br (!s996.toList == s1.toList)
                          (
                           R (Ending.returned (Value.bool false)) w995)
                          (
                           Ca Try.prog (18 : Nat) #[Value.pointer p25] w995 fun e998 w999 =>
                           ∃ n1000 : Int,
                           (
                            e998 = Ending.returned (Value.int IntKind.i64 n1000)) ∧
                           Br (decide (n1000 > n37))
                            (
                             R (Ending.returned (Value.bool false)) w999)
                            (
                             Ca Try.prog (13 : Nat) #[Value.pointer p25] w999 fun e1001 w1002 =>
                             ∃ b1003 : Bool,
                             (
                              e1001 = Ending.returned (Value.bool b1003)) ∧
                             Br (b1003)
                              (
                               Br (!b997)
                                (
                                 R (Ending.returned (Value.bool false)) w1002)
                                (
                                 LetI (IntKind.i64.wrap (n41 + (1 : Int))) fun n1004 =>
                                 ∃ k1005 : Nat,
                                 (
                                  k1005 < k42) ∧
                                 I30 k1005 [Value.slice p32 k33 k34, Value.int IntKind.i64 n35, Value.bool b36, Value.int IntKind.i64 n37, Value.slice p38 k39 k40, Value.int IntKind.i64 n1004] w1002))
                              (
                               LetI (IntKind.i64.wrap (n41 + (1 : Int))) fun n1006 =>
                               ∃ k1007 : Nat,
                               (
                                k1007 < k42) ∧
                               I30 k1007 [Value.slice p32 k33 k34, Value.int IntKind.i64 n35, Value.bool b36, Value.int IntKind.i64 n37, Value.slice p38 k39 k40, Value.int IntKind.i64 n1006] w1002))))
                        (
                         Ca Try.prog (18 : Nat) #[Value.pointer p25] w995 fun e1008 w1009 =>
                         ∃ n1010 : Int,
                         (
                          e1008 = Ending.returned (Value.int IntKind.i64 n1010)) ∧
                         Br (decide (n1010 > n37))
                          (
                           R (Ending.returned (Value.bool false)) w1009)
                          (
                           Ca Try.prog (13 : Nat) #[Value.pointer p25] w1009 fun e1011 w1012 =>
                           ∃ b1013 : Bool,
                           (
                            e1011 = Ending.returned (Value.bool b1013)) ∧
                           Br (b1013)
                            (
                             Br (!b997)
                              (
                               R (Ending.returned (Value.bool false)) w1012)
                              (
                               LetI (IntKind.i64.wrap (n41 + (1 : Int))) fun n1014 =>
                               ∃ k1015 : Nat,
                               (
                                k1015 < k42) ∧
                               I30 k1015 [Value.slice p32 k33 k34, Value.int IntKind.i64 n35, Value.bool b36, Value.int IntKind.i64 n37, Value.slice p38 k39 k40, Value.int IntKind.i64 n1014] w1012))
                            (
                             LetI (IntKind.i64.wrap (n41 + (1 : Int))) fun n1016 =>
                             ∃ k1017 : Nat,
                             (
                              k1017 < k42) ∧
                             I30 k1017 [Value.slice p32 k33 k34, Value.int IntKind.i64 n35, Value.bool b36, Value.int IntKind.i64 n37, Value.slice p38 k39 k40, Value.int IntKind.i64 n1016] w1012)))))))))
            (
             Br (n49 == (2 : Int))
              (
               Ca Try.prog (9 : Nat) #[Value.pointer p25] w43 fun e1018 w1019 =>
               ∃ n1020 : Int,
               ∃ n1021 : Int,
               ∃ n1022 : Int,
               ∃ s1023 : ByteArray,
               ∃ b1024 : Bool,
               (
                e1018 = Ending.returned (Value.tuple #[Value.agg #[Value.int IntKind.i64 n1020, Value.int IntKind.i64 n1021, Value.int IntKind.i64 n1022, Value.string s1023], Value.bool b1024])) ∧
               LetA (Obj.cells #[Value.int IntKind.i64 (0 : Int), Value.int IntKind.i64 (0 : Int), Value.int IntKind.i64 (0 : Int), Value.string { data := #[] }] (32 : Nat)) w1019 fun b1025 w1026 =>
               (
                WrRow w1026 { block := b1025, off := (0 : Nat) } (0 : Nat) [Value.int IntKind.i64 n1020, Value.int IntKind.i64 n1021, Value.int IntKind.i64 n1022, Value.string s1023]) ∧
               LetW (setRow w1026 { block := b1025, off := (0 : Nat) } (0 : Nat) [Value.int IntKind.i64 n1020, Value.int IntKind.i64 n1021, Value.int IntKind.i64 n1022, Value.string s1023]) fun w1027 =>
               Br (b1024)
                (
                 ∃ n1028 : Int,
                 ∃ n1029 : Int,
                 ∃ n1030 : Int,
                 ∃ s1031 : ByteArray,
                 (
                  Row w1027 { block := b1025, off := (0 : Nat) } (0 : Nat) [Value.int IntKind.i64 n1028, Value.int IntKind.i64 n1029, Value.int IntKind.i64 n1030, Value.string s1031]) ∧
                 ∃ n1032 : Int,
                 (
                  w1027.cell? { block := b1025, off := (1 : Nat) } = some (Value.int IntKind.i64 n1032)) ∧
                 LetI (IntKind.i64.wrap (n1032 + (1 : Int))) fun n1033 =>
                 LetI (max n35 n1033) fun n1034 =>
                 LetA (Obj.cells #[Value.int IntKind.i64 n1028, Value.int IntKind.i64 n1029, Value.int IntKind.i64 n1030, Value.string s1031] (32 : Nat)) w1027 fun b1035 w1036 =>
                 (
                  w1036.cell? { block := b1025, off := (1 : Nat) } = some (Value.int IntKind.i64 n1032)) ∧
                 RunsV Try.prog (Builtin.append_ #[(56 : Nat), (56 : Nat)] (56 : Nat) #[Value.slice p32 k33 k34, Value.slice (some { block := b1035, off := (0 : Nat) }) (1 : Nat) (1 : Nat)]) w1036 fun v1037 w1038 =>
                 ∃ p1039 : Option Addr,
                 ∃ k1040 : Nat,
                 ∃ k1041 : Nat,
                 (
                  v1037 = Value.slice p1039 k1040 k1041) ∧
                 (
                  w1038.cell? { block := b1025, off := (1 : Nat) } = some (Value.int IntKind.i64 n1032)) ∧
                 Ca Try.prog (12 : Nat) #[Value.pointer p29] w1038 fun e1042 w1043 =>
                 ∃ s1044 : ByteArray,
                 ∃ b1045 : Bool,
                 (
                  e1042 = Ending.returned (Value.tuple #[Value.string s1044, Value.bool b1045])) ∧
                 Br (b1045)
                  (
                   Br (!s1044.toList == s1.toList)
                    (
                     R (Ending.returned (Value.bool false)) w1043)
                    (
                     Ca Try.prog (18 : Nat) #[Value.pointer p25] w1043 fun e1046 w1047 =>
                     ∃ n1048 : Int,
                     (
                      e1046 = Ending.returned (Value.int IntKind.i64 n1048)) ∧
                     Br (decide (n1048 > n37))
                      (
                       R (Ending.returned (Value.bool false)) w1047)
                      (
                       Ca Try.prog (13 : Nat) #[Value.pointer p25] w1047 fun e1049 w1050 =>
                       ∃ b1051 : Bool,
                       (
                        e1049 = Ending.returned (Value.bool b1051)) ∧
                       Br (b1051)
                        (
                         Br (!b1045)
                          (
                           R (Ending.returned (Value.bool false)) w1050)
                          (
                           LetI (IntKind.i64.wrap (n41 + (1 : Int))) fun n1052 =>
                           ∃ k1053 : Nat,
                           (
                            k1053 < k42) ∧
                           I30 k1053 [Value.slice p1039 k1040 k1041, Value.int IntKind.i64 n1034, Value.bool b36, Value.int IntKind.i64 n37, Value.slice p38 k39 k40, Value.int IntKind.i64 n1052] w1050))
                        (
                         LetI (IntKind.i64.wrap (n41 + (1 : Int))) fun n1054 =>
                         ∃ k1055 : Nat,
                         (
                          k1055 < k42) ∧
                         I30 k1055 [Value.slice p1039 k1040 k1041, Value.int IntKind.i64 n1034, Value.bool b36, Value.int IntKind.i64 n37, Value.slice p38 k39 k40, Value.int IntKind.i64 n1054] w1050))))
                  (
                   Ca Try.prog (18 : Nat) #[Value.pointer p25] w1043 fun e1056 w1057 =>
                   ∃ n1058 : Int,
                   (
                    e1056 = Ending.returned (Value.int IntKind.i64 n1058)) ∧
                   Br (decide (n1058 > n37))
                    (
                     R (Ending.returned (Value.bool false)) w1057)
                    (
                     Ca Try.prog (13 : Nat) #[Value.pointer p25] w1057 fun e1059 w1060 =>
                     ∃ b1061 : Bool,
                     (
                      e1059 = Ending.returned (Value.bool b1061)) ∧
                     Br (b1061)
                      (
                       Br (!b1045)
                        (
                         R (Ending.returned (Value.bool false)) w1060)
                        (
                         LetI (IntKind.i64.wrap (n41 + (1 : Int))) fun n1062 =>
                         ∃ k1063 : Nat,
                         (
                          k1063 < k42) ∧
                         I30 k1063 [Value.slice p1039 k1040 k1041, Value.int IntKind.i64 n1034, Value.bool b36, Value.int IntKind.i64 n37, Value.slice p38 k39 k40, Value.int IntKind.i64 n1062] w1060))
                      (
                       LetI (IntKind.i64.wrap (n41 + (1 : Int))) fun n1064 =>
                       ∃ k1065 : Nat,
                       (
                        k1065 < k42) ∧
                       I30 k1065 [Value.slice p1039 k1040 k1041, Value.int IntKind.i64 n1034, Value.bool b36, Value.int IntKind.i64 n37, Value.slice p38 k39 k40, Value.int IntKind.i64 n1064] w1060))))
                (
                 Ca Try.prog (12 : Nat) #[Value.pointer p29] w1027 fun e1066 w1067 =>
                 ∃ s1068 : ByteArray,
                 ∃ b1069 : Bool,
                 (
                  e1066 = Ending.returned (Value.tuple #[Value.string s1068, Value.bool b1069])) ∧
                 Br (b1069)
                  (
                   Br (!s1068.toList == s1.toList)
                    (
                     R (Ending.returned (Value.bool false)) w1067)
                    (
                     Ca Try.prog (18 : Nat) #[Value.pointer p25] w1067 fun e1070 w1071 =>
                     ∃ n1072 : Int,
                     (
                      e1070 = Ending.returned (Value.int IntKind.i64 n1072)) ∧
                     Br (decide (n1072 > n37))
                      (
                       R (Ending.returned (Value.bool false)) w1071)
                      (
                       Ca Try.prog (13 : Nat) #[Value.pointer p25] w1071 fun e1073 w1074 =>
                       ∃ b1075 : Bool,
                       (
                        e1073 = Ending.returned (Value.bool b1075)) ∧
                       Br (b1075)
                        (
                         Br (!b1069)
                          (
                           R (Ending.returned (Value.bool false)) w1074)
                          (
                           LetI (IntKind.i64.wrap (n41 + (1 : Int))) fun n1076 =>
                           ∃ k1077 : Nat,
                           (
                            k1077 < k42) ∧
                           I30 k1077 [Value.slice p32 k33 k34, Value.int IntKind.i64 n35, Value.bool b36, Value.int IntKind.i64 n37, Value.slice p38 k39 k40, Value.int IntKind.i64 n1076] w1074))
                        (
                         LetI (IntKind.i64.wrap (n41 + (1 : Int))) fun n1078 =>
                         ∃ k1079 : Nat,
                         (
                          k1079 < k42) ∧
                         I30 k1079 [Value.slice p32 k33 k34, Value.int IntKind.i64 n35, Value.bool b36, Value.int IntKind.i64 n37, Value.slice p38 k39 k40, Value.int IntKind.i64 n1078] w1074))))
                  (
                   Ca Try.prog (18 : Nat) #[Value.pointer p25] w1067 fun e1080 w1081 =>
                   ∃ n1082 : Int,
                   (
                    e1080 = Ending.returned (Value.int IntKind.i64 n1082)) ∧
                   Br (decide (n1082 > n37))
                    (
                     R (Ending.returned (Value.bool false)) w1081)
                    (
                     Ca Try.prog (13 : Nat) #[Value.pointer p25] w1081 fun e1083 w1084 =>
                     ∃ b1085 : Bool,
                     (
                      e1083 = Ending.returned (Value.bool b1085)) ∧
                     Br (b1085)
                      (
                       Br (!b1069)
                        (
                         R (Ending.returned (Value.bool false)) w1084)
                        (
                         LetI (IntKind.i64.wrap (n41 + (1 : Int))) fun n1086 =>
                         ∃ k1087 : Nat,
                         (
                          k1087 < k42) ∧
                         I30 k1087 [Value.slice p32 k33 k34, Value.int IntKind.i64 n35, Value.bool b36, Value.int IntKind.i64 n37, Value.slice p38 k39 k40, Value.int IntKind.i64 n1086] w1084))
                      (
                       LetI (IntKind.i64.wrap (n41 + (1 : Int))) fun n1088 =>
                       ∃ k1089 : Nat,
                       (
                        k1089 < k42) ∧
                       I30 k1089 [Value.slice p32 k33 k34, Value.int IntKind.i64 n35, Value.bool b36, Value.int IntKind.i64 n37, Value.slice p38 k39 k40, Value.int IntKind.i64 n1088] w1084)))))
              (
               Br (n49 == (3 : Int))
                (
                 Br (n49 == (3 : Int))
                  (
                   Br (decide ((↑k33 : Int) > (0 : Int)))
                    (
                     (
                      (↑k33 : Int) ≠ (0 : Int)) ∧
                     LetI (n46.tmod (↑k33 : Int)) fun n1090 =>
                     NilOk p32 fun a1091 =>
                     (
                      (
                       (0 : Int) ≤ n1090) ∧
                      n1090 < (↑k33 : Int)) ∧
                     ∃ n1092 : Int,
                     ∃ n1093 : Int,
                     ∃ n1094 : Int,
                     ∃ s1095 : ByteArray,
                     (
                      Row w43 (a1091.add (n1090.toNat * (4 : Nat))) (0 : Nat) [Value.int IntKind.i64 n1092, Value.int IntKind.i64 n1093, Value.int IntKind.i64 n1094, Value.string s1095]) ∧
                     Ca Try.prog (10 : Nat) #[Value.pointer p29, Value.agg #[Value.int IntKind.i64 n1092, Value.int IntKind.i64 n1093, Value.int IntKind.i64 n1094, Value.string s1095]] w43 fun e1096 w1097 =>
                     ∃ n1098 : Int,
                     ∃ n1099 : Int,
                     (
                      e1096 = Ending.returned (Value.tuple #[Value.int IntKind.i64 n1098, Value.int IntKind.i64 n1099])) ∧
                     Br (n1098 != (7 : Int))
                      (
                       R (Ending.returned (Value.bool false)) w1097)
                      (
                       Br (decide (n1099 < n37))
                        (
                         R (Ending.returned (Value.bool false)) w1097)
                        (
                         LetI (IntKind.i64.wrap (n37 + (1 : Int))) fun n1100 =>
                         Br (decide (n1099 > n1100))
                          (
                           R (Ending.returned (Value.bool false)) w1097)
                          (
                           Br (decide (n1099 > n35))
                            (
                             R (Ending.returned (Value.bool false)) w1097)
                            (
                             LetA (Obj.cells #[Value.int IntKind.i64 n1099] (3 : Nat)) w1097 fun b1101 w1102 =>
                             RunsV Try.prog (Builtin.append_ #[(57 : Nat), (57 : Nat)] (57 : Nat) #[Value.slice p38 k39 k40, Value.slice (some { block := b1101, off := (0 : Nat) }) (1 : Nat) (1 : Nat)]) w1102 fun v1103 w1104 =>
                             ∃ p1105 : Option Addr,
                             ∃ k1106 : Nat,
                             ∃ k1107 : Nat,
                             (
                              v1103 = Value.slice p1105 k1106 k1107) ∧
                             Ca Try.prog (12 : Nat) #[Value.pointer p29] w1104 fun e1108 w1109 =>
                             ∃ s1110 : ByteArray,
                             ∃ b1111 : Bool,
                             (
                              e1108 = Ending.returned (Value.tuple #[Value.string s1110, Value.bool b1111])) ∧
                             Br (b1111)
                              (
                               Br (!s1110.toList == s1.toList)
                                (
                                 R (Ending.returned (Value.bool false)) w1109)
                                (
                                 Ca Try.prog (18 : Nat) #[Value.pointer p25] w1109 fun e1112 w1113 =>
                                 ∃ n1114 : Int,
                                 (
                                  e1112 = Ending.returned (Value.int IntKind.i64 n1114)) ∧
                                 Br (decide (n1114 > n1099))
                                  (
                                   R (Ending.returned (Value.bool false)) w1113)
                                  (
                                   Ca Try.prog (13 : Nat) #[Value.pointer p25] w1113 fun e1115 w1116 =>
                                   ∃ b1117 : Bool,
                                   (
                                    e1115 = Ending.returned (Value.bool b1117)) ∧
                                   Br (b1117)
                                    (
                                     Br (!b1111)
                                      (
                                       R (Ending.returned (Value.bool false)) w1116)
                                      (
                                       LetI (IntKind.i64.wrap (n41 + (1 : Int))) fun n1118 =>
                                       ∃ k1119 : Nat,
                                       (
                                        k1119 < k42) ∧
                                       I30 k1119 [Value.slice p32 k33 k34, Value.int IntKind.i64 n35, Value.bool b36, Value.int IntKind.i64 n1099, Value.slice p1105 k1106 k1107, Value.int IntKind.i64 n1118] w1116))
                                    (
                                     LetI (IntKind.i64.wrap (n41 + (1 : Int))) fun n1120 =>
                                     ∃ k1121 : Nat,
                                     (
                                      k1121 < k42) ∧
                                     I30 k1121 [Value.slice p32 k33 k34, Value.int IntKind.i64 n35, Value.bool b36, Value.int IntKind.i64 n1099, Value.slice p1105 k1106 k1107, Value.int IntKind.i64 n1120] w1116))))
                              (
                               Ca Try.prog (18 : Nat) #[Value.pointer p25] w1109 fun e1122 w1123 =>
                               ∃ n1124 : Int,
                               (
                                e1122 = Ending.returned (Value.int IntKind.i64 n1124)) ∧
                               Br (decide (n1124 > n1099))
                                (
                                 R (Ending.returned (Value.bool false)) w1123)
                                (
                                 Ca Try.prog (13 : Nat) #[Value.pointer p25] w1123 fun e1125 w1126 =>
                                 ∃ b1127 : Bool,
                                 (
                                  e1125 = Ending.returned (Value.bool b1127)) ∧
                                 Br (b1127)
                                  (
                                   Br (!b1111)
                                    (
                                     R (Ending.returned (Value.bool false)) w1126)
                                    (
                                     LetI (IntKind.i64.wrap (n41 + (1 : Int))) fun n1128 =>
                                     ∃ k1129 : Nat,
                                     (
                                      k1129 < k42) ∧
                                     I30 k1129 [Value.slice p32 k33 k34, Value.int IntKind.i64 n35, Value.bool b36, Value.int IntKind.i64 n1099, Value.slice p1105 k1106 k1107, Value.int IntKind.i64 n1128] w1126))
                                  (
                                   LetI (IntKind.i64.wrap (n41 + (1 : Int))) fun n1130 =>
                                   ∃ k1131 : Nat,
                                   (
                                    k1131 < k42) ∧
                                   I30 k1131 [Value.slice p32 k33 k34, Value.int IntKind.i64 n35, Value.bool b36, Value.int IntKind.i64 n1099, Value.slice p1105 k1106 k1107, Value.int IntKind.i64 n1130] w1126))))))))
                    (
                     Ca Try.prog (12 : Nat) #[Value.pointer p29] w43 fun e1132 w1133 =>
                     ∃ s1134 : ByteArray,
                     ∃ b1135 : Bool,
                     (
                      e1132 = Ending.returned (Value.tuple #[Value.string s1134, Value.bool b1135])) ∧
                     Br (b1135)
                      (
                       Br (!s1134.toList == s1.toList)
                        (
                         R (Ending.returned (Value.bool false)) w1133)
                        (
                         Ca Try.prog (18 : Nat) #[Value.pointer p25] w1133 fun e1136 w1137 =>
                         ∃ n1138 : Int,
                         (
                          e1136 = Ending.returned (Value.int IntKind.i64 n1138)) ∧
                         Br (decide (n1138 > n37))
                          (
                           R (Ending.returned (Value.bool false)) w1137)
                          (
                           Ca Try.prog (13 : Nat) #[Value.pointer p25] w1137 fun e1139 w1140 =>
                           ∃ b1141 : Bool,
                           (
                            e1139 = Ending.returned (Value.bool b1141)) ∧
                           Br (b1141)
                            (
                             Br (!b1135)
                              (
                               R (Ending.returned (Value.bool false)) w1140)
                              (
                               LetI (IntKind.i64.wrap (n41 + (1 : Int))) fun n1142 =>
                               ∃ k1143 : Nat,
                               (
                                k1143 < k42) ∧
                               I30 k1143 [Value.slice p32 k33 k34, Value.int IntKind.i64 n35, Value.bool b36, Value.int IntKind.i64 n37, Value.slice p38 k39 k40, Value.int IntKind.i64 n1142] w1140))
                            (
                             LetI (IntKind.i64.wrap (n41 + (1 : Int))) fun n1144 =>
                             ∃ k1145 : Nat,
                             (
                              k1145 < k42) ∧
                             I30 k1145 [Value.slice p32 k33 k34, Value.int IntKind.i64 n35, Value.bool b36, Value.int IntKind.i64 n37, Value.slice p38 k39 k40, Value.int IntKind.i64 n1144] w1140))))
                      (
                       Ca Try.prog (18 : Nat) #[Value.pointer p25] w1133 fun e1146 w1147 =>
                       ∃ n1148 : Int,
                       (
                        e1146 = Ending.returned (Value.int IntKind.i64 n1148)) ∧
                       Br (decide (n1148 > n37))
                        (
                         R (Ending.returned (Value.bool false)) w1147)
                        (
                         Ca Try.prog (13 : Nat) #[Value.pointer p25] w1147 fun e1149 w1150 =>
                         ∃ b1151 : Bool,
                         (
                          e1149 = Ending.returned (Value.bool b1151)) ∧
                         Br (b1151)
                          (
                           Br (!b1135)
                            (
                             R (Ending.returned (Value.bool false)) w1150)
                            (
                             LetI (IntKind.i64.wrap (n41 + (1 : Int))) fun n1152 =>
                             ∃ k1153 : Nat,
                             (
                              k1153 < k42) ∧
                             I30 k1153 [Value.slice p32 k33 k34, Value.int IntKind.i64 n35, Value.bool b36, Value.int IntKind.i64 n37, Value.slice p38 k39 k40, Value.int IntKind.i64 n1152] w1150))
                          (
                           LetI (IntKind.i64.wrap (n41 + (1 : Int))) fun n1154 =>
                           ∃ k1155 : Nat,
                           (
                            k1155 < k42) ∧
                           I30 k1155 [Value.slice p32 k33 k34, Value.int IntKind.i64 n35, Value.bool b36, Value.int IntKind.i64 n37, Value.slice p38 k39 k40, Value.int IntKind.i64 n1154] w1150)))))
                  (
                   Br (n49 == (5 : Int))
                    (
                     Br (decide ((↑k33 : Int) > (0 : Int)))
                      (
                       (
                        (↑k33 : Int) ≠ (0 : Int)) ∧
                       LetI (n46.tmod (↑k33 : Int)) fun n1156 =>
                       (
                        (
                         (0 : Int) ≤ (0 : Int)) ∧
                        (
                         (0 : Int) ≤ n1156) ∧
                        (
                         n1156 ≤ (↑k34 : Int)) ∧
                        (
                         (↑k34 : Int) ≤ (↑k34 : Int)) ∧
                        (
                         (
                          false = true) →
                         true = true)) ∧
                       LetI (IntKind.i64.wrap (n1156 + (1 : Int))) fun n1157 =>
                       (
                        (
                         (0 : Int) ≤ n1157) ∧
                        (
                         n1157 ≤ (↑k33 : Int)) ∧
                        (
                         (↑k33 : Int) ≤ (↑k34 : Int)) ∧
                        (
                         (↑k34 : Int) ≤ (↑k34 : Int)) ∧
                        (
                         (
                          false = true) →
                         false = true)) ∧
                       RunsV Try.prog (Builtin.append_ #[(56 : Nat), (56 : Nat)] (56 : Nat) #[Value.slice none (0 : Nat) (0 : Nat), Value.slice (if (↑k34 : Int).toNat = Int.toNat (0 : Int) then p32 else Option.map (fun x => x.add (Int.toNat (0 : Int) * sizeT Try.prog (32 : Nat))) p32) (n1156.toNat - (0 : Nat)) ((↑k34 : Int).toNat - (0 : Nat))]) w43 fun v1158 w1159 =>
                       ∃ p1160 : Option Addr,
                       ∃ k1161 : Nat,
                       ∃ k1162 : Nat,
                       (
                        v1158 = Value.slice p1160 k1161 k1162) ∧
                       RunsV Try.prog (Builtin.append_ #[(56 : Nat), (56 : Nat)] (56 : Nat) #[Value.slice p1160 k1161 k1162, Value.slice (if (↑k34 : Int).toNat = n1157.toNat then p32 else Option.map (fun x => x.add (n1157.toNat * sizeT Try.prog (32 : Nat))) p32) ((↑k33 : Int).toNat - n1157.toNat) ((↑k34 : Int).toNat - n1157.toNat)]) w1159 fun v1163 w1164 =>
                       ∃ p1165 : Option Addr,
                       ∃ k1166 : Nat,
                       ∃ k1167 : Nat,
                       (
                        v1163 = Value.slice p1165 k1166 k1167) ∧
                       Ca Try.prog (12 : Nat) #[Value.pointer p29] w1164 fun e1168 w1169 =>
                       ∃ s1170 : ByteArray,
                       ∃ b1171 : Bool,
                       (
                        e1168 = Ending.returned (Value.tuple #[Value.string s1170, Value.bool b1171])) ∧
                       Br (b1171)
                        (
                         Br (!s1170.toList == s1.toList)
                          (
                           R (Ending.returned (Value.bool false)) w1169)
                          (
                           Ca Try.prog (18 : Nat) #[Value.pointer p25] w1169 fun e1172 w1173 =>
                           ∃ n1174 : Int,
                           (
                            e1172 = Ending.returned (Value.int IntKind.i64 n1174)) ∧
                           Br (decide (n1174 > n37))
                            (
                             R (Ending.returned (Value.bool false)) w1173)
                            (
                             Ca Try.prog (13 : Nat) #[Value.pointer p25] w1173 fun e1175 w1176 =>
                             ∃ b1177 : Bool,
                             (
                              e1175 = Ending.returned (Value.bool b1177)) ∧
                             Br (b1177)
                              (
                               Br (!b1171)
                                (
                                 R (Ending.returned (Value.bool false)) w1176)
                                (
                                 LetI (IntKind.i64.wrap (n41 + (1 : Int))) fun n1178 =>
                                 ∃ k1179 : Nat,
                                 (
                                  k1179 < k42) ∧
                                 I30 k1179 [Value.slice p1165 k1166 k1167, Value.int IntKind.i64 n35, Value.bool b36, Value.int IntKind.i64 n37, Value.slice p38 k39 k40, Value.int IntKind.i64 n1178] w1176))
                              (
                               LetI (IntKind.i64.wrap (n41 + (1 : Int))) fun n1180 =>
                               ∃ k1181 : Nat,
                               (
                                k1181 < k42) ∧
                               I30 k1181 [Value.slice p1165 k1166 k1167, Value.int IntKind.i64 n35, Value.bool b36, Value.int IntKind.i64 n37, Value.slice p38 k39 k40, Value.int IntKind.i64 n1180] w1176))))
                        (
                         Ca Try.prog (18 : Nat) #[Value.pointer p25] w1169 fun e1182 w1183 =>
                         ∃ n1184 : Int,
                         (
                          e1182 = Ending.returned (Value.int IntKind.i64 n1184)) ∧
                         Br (decide (n1184 > n37))
                          (
                           R (Ending.returned (Value.bool false)) w1183)
                          (
                           Ca Try.prog (13 : Nat) #[Value.pointer p25] w1183 fun e1185 w1186 =>
                           ∃ b1187 : Bool,
                           (
                            e1185 = Ending.returned (Value.bool b1187)) ∧
                           Br (b1187)
                            (
                             Br (!b1171)
                              (
                               R (Ending.returned (Value.bool false)) w1186)
                              (
                               LetI (IntKind.i64.wrap (n41 + (1 : Int))) fun n1188 =>
                               ∃ k1189 : Nat,
                               (
                                k1189 < k42) ∧
                               I30 k1189 [Value.slice p1165 k1166 k1167, Value.int IntKind.i64 n35, Value.bool b36, Value.int IntKind.i64 n37, Value.slice p38 k39 k40, Value.int IntKind.i64 n1188] w1186))
                            (
                             LetI (IntKind.i64.wrap (n41 + (1 : Int))) fun n1190 =>
                             ∃ k1191 : Nat,
                             (
                              k1191 < k42) ∧
                             I30 k1191 [Value.slice p1165 k1166 k1167, Value.int IntKind.i64 n35, Value.bool b36, Value.int IntKind.i64 n37, Value.slice p38 k39 k40, Value.int IntKind.i64 n1190] w1186))))
                      (
                       Ca Try.prog (12 : Nat) #[Value.pointer p29] w43 fun e1192 w1193 =>
                       ∃ s1194 : ByteArray,
                       ∃ b1195 : Bool,
                       (
                        e1192 = Ending.returned (Value.tuple #[Value.string s1194, Value.bool b1195])) ∧
                       Br (b1195)
                        (
                         Br (!s1194.toList == s1.toList)
                          (
                           R (Ending.returned (Value.bool false)) w1193)
                          (
                           Ca Try.prog (18 : Nat) #[Value.pointer p25] w1193 fun e1196 w1197 =>
                           ∃ n1198 : Int,
                           (
                            e1196 = Ending.returned (Value.int IntKind.i64 n1198)) ∧
                           Br (decide (n1198 > n37))
                            (
                             R (Ending.returned (Value.bool false)) w1197)
                            (
                             Ca Try.prog (13 : Nat) #[Value.pointer p25] w1197 fun e1199 w1200 =>
                             ∃ b1201 : Bool,
                             (
                              e1199 = Ending.returned (Value.bool b1201)) ∧
                             Br (b1201)
                              (
                               Br (!b1195)
                                (
                                 R (Ending.returned (Value.bool false)) w1200)
                                (
                                 LetI (IntKind.i64.wrap (n41 + (1 : Int))) fun n1202 =>
                                 ∃ k1203 : Nat,
                                 (
                                  k1203 < k42) ∧
                                 I30 k1203 [Value.slice p32 k33 k34, Value.int IntKind.i64 n35, Value.bool b36, Value.int IntKind.i64 n37, Value.slice p38 k39 k40, Value.int IntKind.i64 n1202] w1200))
                              (
                               LetI (IntKind.i64.wrap (n41 + (1 : Int))) fun n1204 =>
                               ∃ k1205 : Nat,
                               (
                                k1205 < k42) ∧
                               I30 k1205 [Value.slice p32 k33 k34, Value.int IntKind.i64 n35, Value.bool b36, Value.int IntKind.i64 n37, Value.slice p38 k39 k40, Value.int IntKind.i64 n1204] w1200))))
                        (
                         Ca Try.prog (18 : Nat) #[Value.pointer p25] w1193 fun e1206 w1207 =>
                         ∃ n1208 : Int,
                         (
                          e1206 = Ending.returned (Value.int IntKind.i64 n1208)) ∧
                         Br (decide (n1208 > n37))
                          (
                           R (Ending.returned (Value.bool false)) w1207)
                          (
                           Ca Try.prog (13 : Nat) #[Value.pointer p25] w1207 fun e1209 w1210 =>
                           ∃ b1211 : Bool,
                           (
                            e1209 = Ending.returned (Value.bool b1211)) ∧
                           Br (b1211)
                            (
                             Br (!b1195)
                              (
                               R (Ending.returned (Value.bool false)) w1210)
                              (
                               LetI (IntKind.i64.wrap (n41 + (1 : Int))) fun n1212 =>
                               ∃ k1213 : Nat,
                               (
                                k1213 < k42) ∧
                               I30 k1213 [Value.slice p32 k33 k34, Value.int IntKind.i64 n35, Value.bool b36, Value.int IntKind.i64 n37, Value.slice p38 k39 k40, Value.int IntKind.i64 n1212] w1210))
                            (
                             LetI (IntKind.i64.wrap (n41 + (1 : Int))) fun n1214 =>
                             ∃ k1215 : Nat,
                             (
                              k1215 < k42) ∧
                             I30 k1215 [Value.slice p32 k33 k34, Value.int IntKind.i64 n35, Value.bool b36, Value.int IntKind.i64 n37, Value.slice p38 k39 k40, Value.int IntKind.i64 n1214] w1210)))))
                    (
                     Br (n49 == (6 : Int))
                      (
                       Br (decide ((↑k39 : Int) > (0 : Int)))
                        (
                         (
                          (↑k39 : Int) ≠ (0 : Int)) ∧
                         LetI (n46.tmod (↑k39 : Int)) fun n1216 =>
                         NilOk p38 fun a1217 =>
                         (
                          (
                           (0 : Int) ≤ n1216) ∧
                          n1216 < (↑k39 : Int)) ∧
                         ∃ n1218 : Int,
                         (
                          w43.cell? (a1217.add (n1216.toNat * (1 : Nat))) = some (Value.int IntKind.i64 n1218)) ∧
                         Ca Try.prog (11 : Nat) #[Value.pointer p25, Value.int IntKind.i64 (7 : Int), Value.int IntKind.i64 n1218] w43 fun e1219 w1220 =>
                         ∃ n1221 : Int,
                         (
                          e1219 = Ending.returned (Value.int IntKind.i64 n1221)) ∧
                         Br (n1221 != (0 : Int))
                          (
                           R (Ending.returned (Value.bool false)) w1220)
                          (
                           Ca Try.prog (12 : Nat) #[Value.pointer p29] w1220 fun e1222 w1223 =>
                           ∃ s1224 : ByteArray,
                           ∃ b1225 : Bool,
                           (
                            e1222 = Ending.returned (Value.tuple #[Value.string s1224, Value.bool b1225])) ∧
                           Br (b1225)
                            (
                             Br (!s1224.toList == s1.toList)
                              (
                               R (Ending.returned (Value.bool false)) w1223)
                              (
                               Ca Try.prog (18 : Nat) #[Value.pointer p25] w1223 fun e1226 w1227 =>
                               ∃ n1228 : Int,
                               (
                                e1226 = Ending.returned (Value.int IntKind.i64 n1228)) ∧
                               Br (decide (n1228 > n37))
                                (
                                 R (Ending.returned (Value.bool false)) w1227)
                                (
                                 Ca Try.prog (13 : Nat) #[Value.pointer p25] w1227 fun e1229 w1230 =>
                                 ∃ b1231 : Bool,
                                 (
                                  e1229 = Ending.returned (Value.bool b1231)) ∧
                                 Br (b1231)
                                  (
                                   Br (!b1225)
                                    (
                                     R (Ending.returned (Value.bool false)) w1230)
                                    (
                                     LetI (IntKind.i64.wrap (n41 + (1 : Int))) fun n1232 =>
                                     ∃ k1233 : Nat,
                                     (
                                      k1233 < k42) ∧
                                     I30 k1233 [Value.slice p32 k33 k34, Value.int IntKind.i64 n35, Value.bool b36, Value.int IntKind.i64 n37, Value.slice p38 k39 k40, Value.int IntKind.i64 n1232] w1230))
                                  (
                                   LetI (IntKind.i64.wrap (n41 + (1 : Int))) fun n1234 =>
                                   ∃ k1235 : Nat,
                                   (
                                    k1235 < k42) ∧
                                   I30 k1235 [Value.slice p32 k33 k34, Value.int IntKind.i64 n35, Value.bool b36, Value.int IntKind.i64 n37, Value.slice p38 k39 k40, Value.int IntKind.i64 n1234] w1230))))
                            (
                             Ca Try.prog (18 : Nat) #[Value.pointer p25] w1223 fun e1236 w1237 =>
                             ∃ n1238 : Int,
                             (
                              e1236 = Ending.returned (Value.int IntKind.i64 n1238)) ∧
                             Br (decide (n1238 > n37))
                              (
                               R (Ending.returned (Value.bool false)) w1237)
                              (
                               Ca Try.prog (13 : Nat) #[Value.pointer p25] w1237 fun e1239 w1240 =>
                               ∃ b1241 : Bool,
                               (
                                e1239 = Ending.returned (Value.bool b1241)) ∧
                               Br (b1241)
                                (
                                 Br (!b1225)
                                  (
                                   R (Ending.returned (Value.bool false)) w1240)
                                  (
                                   LetI (IntKind.i64.wrap (n41 + (1 : Int))) fun n1242 =>
                                   ∃ k1243 : Nat,
                                   (
                                    k1243 < k42) ∧
                                   I30 k1243 [Value.slice p32 k33 k34, Value.int IntKind.i64 n35, Value.bool b36, Value.int IntKind.i64 n37, Value.slice p38 k39 k40, Value.int IntKind.i64 n1242] w1240))
                                (
                                 LetI (IntKind.i64.wrap (n41 + (1 : Int))) fun n1244 =>
                                 ∃ k1245 : Nat,
                                 (
                                  k1245 < k42) ∧
                                 I30 k1245 [Value.slice p32 k33 k34, Value.int IntKind.i64 n35, Value.bool b36, Value.int IntKind.i64 n37, Value.slice p38 k39 k40, Value.int IntKind.i64 n1244] w1240)))))
                        (
                         Ca Try.prog (12 : Nat) #[Value.pointer p29] w43 fun e1246 w1247 =>
                         ∃ s1248 : ByteArray,
                         ∃ b1249 : Bool,
                         (
                          e1246 = Ending.returned (Value.tuple #[Value.string s1248, Value.bool b1249])) ∧
                         Br (b1249)
                          (
                           Br (!s1248.toList == s1.toList)
                            (
                             R (Ending.returned (Value.bool false)) w1247)
                            (
                             Ca Try.prog (18 : Nat) #[Value.pointer p25] w1247 fun e1250 w1251 =>
                             ∃ n1252 : Int,
                             (
                              e1250 = Ending.returned (Value.int IntKind.i64 n1252)) ∧
                             Br (decide (n1252 > n37))
                              (
                               R (Ending.returned (Value.bool false)) w1251)
                              (
                               Ca Try.prog (13 : Nat) #[Value.pointer p25] w1251 fun e1253 w1254 =>
                               ∃ b1255 : Bool,
                               (
                                e1253 = Ending.returned (Value.bool b1255)) ∧
                               Br (b1255)
                                (
                                 Br (!b1249)
                                  (
                                   R (Ending.returned (Value.bool false)) w1254)
                                  (
                                   LetI (IntKind.i64.wrap (n41 + (1 : Int))) fun n1256 =>
                                   ∃ k1257 : Nat,
                                   (
                                    k1257 < k42) ∧
                                   I30 k1257 [Value.slice p32 k33 k34, Value.int IntKind.i64 n35, Value.bool b36, Value.int IntKind.i64 n37, Value.slice p38 k39 k40, Value.int IntKind.i64 n1256] w1254))
                                (
                                 LetI (IntKind.i64.wrap (n41 + (1 : Int))) fun n1258 =>
                                 ∃ k1259 : Nat,
                                 (
                                  k1259 < k42) ∧
                                 I30 k1259 [Value.slice p32 k33 k34, Value.int IntKind.i64 n35, Value.bool b36, Value.int IntKind.i64 n37, Value.slice p38 k39 k40, Value.int IntKind.i64 n1258] w1254))))
                          (
                           Ca Try.prog (18 : Nat) #[Value.pointer p25] w1247 fun e1260 w1261 =>
                           ∃ n1262 : Int,
                           (
                            e1260 = Ending.returned (Value.int IntKind.i64 n1262)) ∧
                           Br (decide (n1262 > n37))
                            (
                             R (Ending.returned (Value.bool false)) w1261)
                            (
                             Ca Try.prog (13 : Nat) #[Value.pointer p25] w1261 fun e1263 w1264 =>
                             ∃ b1265 : Bool,
                             (
                              e1263 = Ending.returned (Value.bool b1265)) ∧
                             Br (b1265)
                              (
                               Br (!b1249)
                                (
                                 R (Ending.returned (Value.bool false)) w1264)
                                (
                                 LetI (IntKind.i64.wrap (n41 + (1 : Int))) fun n1266 =>
                                 ∃ k1267 : Nat,
                                 (
                                  k1267 < k42) ∧
                                 I30 k1267 [Value.slice p32 k33 k34, Value.int IntKind.i64 n35, Value.bool b36, Value.int IntKind.i64 n37, Value.slice p38 k39 k40, Value.int IntKind.i64 n1266] w1264))
                              (
                               LetI (IntKind.i64.wrap (n41 + (1 : Int))) fun n1268 =>
                               ∃ k1269 : Nat,
                               (
                                k1269 < k42) ∧
                               I30 k1269 [Value.slice p32 k33 k34, Value.int IntKind.i64 n35, Value.bool b36, Value.int IntKind.i64 n37, Value.slice p38 k39 k40, Value.int IntKind.i64 n1268] w1264)))))
                      (
                       Ca Try.prog (16 : Nat) #[Value.pointer p25] w43 fun e1270 w1271 =>
                       (
                        e1270 = Ending.returned (Value.tuple #[])) ∧
                       Ca Try.prog (12 : Nat) #[Value.pointer p29] w1271 fun e1272 w1273 =>
                       ∃ s1274 : ByteArray,
                       ∃ b1275 : Bool,
                       (
                        e1272 = Ending.returned (Value.tuple #[Value.string s1274, Value.bool b1275])) ∧
                       Br (b1275)
                        (
                         Br (!s1274.toList == s1.toList)
                          (
                           R (Ending.returned (Value.bool false)) w1273)
                          (
                           Ca Try.prog (18 : Nat) #[Value.pointer p25] w1273 fun e1276 w1277 =>
                           ∃ n1278 : Int,
                           (
                            e1276 = Ending.returned (Value.int IntKind.i64 n1278)) ∧
                           Br (decide (n1278 > n37))
                            (
                             R (Ending.returned (Value.bool false)) w1277)
                            (
                             Ca Try.prog (13 : Nat) #[Value.pointer p25] w1277 fun e1279 w1280 =>
                             ∃ b1281 : Bool,
                             (
                              e1279 = Ending.returned (Value.bool b1281)) ∧
                             Br (b1281)
                              (
                               Br (!b1275)
                                (
                                 R (Ending.returned (Value.bool false)) w1280)
                                (
                                 LetI (IntKind.i64.wrap (n41 + (1 : Int))) fun n1282 =>
                                 ∃ k1283 : Nat,
                                 (
                                  k1283 < k42) ∧
                                 I30 k1283 [Value.slice p32 k33 k34, Value.int IntKind.i64 n35, Value.bool b36, Value.int IntKind.i64 n37, Value.slice p38 k39 k40, Value.int IntKind.i64 n1282] w1280))
                              (
                               LetI (IntKind.i64.wrap (n41 + (1 : Int))) fun n1284 =>
                               ∃ k1285 : Nat,
                               (
                                k1285 < k42) ∧
                               I30 k1285 [Value.slice p32 k33 k34, Value.int IntKind.i64 n35, Value.bool b36, Value.int IntKind.i64 n37, Value.slice p38 k39 k40, Value.int IntKind.i64 n1284] w1280))))
                        (
                         Ca Try.prog (18 : Nat) #[Value.pointer p25] w1273 fun e1286 w1287 =>
                         ∃ n1288 : Int,
                         (
                          e1286 = Ending.returned (Value.int IntKind.i64 n1288)) ∧
                         Br (decide (n1288 > n37))
                          (
                           R (Ending.returned (Value.bool false)) w1287)
                          (
                           Ca Try.prog (13 : Nat) #[Value.pointer p25] w1287 fun e1289 w1290 =>
                           ∃ b1291 : Bool,
                           (
                            e1289 = Ending.returned (Value.bool b1291)) ∧
                           Br (b1291)
                            (
                             Br (!b1275)
                              (
                               R (Ending.returned (Value.bool false)) w1290)
                              (
                               LetI (IntKind.i64.wrap (n41 + (1 : Int))) fun n1292 =>
                               ∃ k1293 : Nat,
                               (
                                k1293 < k42) ∧
                               I30 k1293 [Value.slice p32 k33 k34, Value.int IntKind.i64 n35, Value.bool b36, Value.int IntKind.i64 n37, Value.slice p38 k39 k40, Value.int IntKind.i64 n1292] w1290))
                            (
                             LetI (IntKind.i64.wrap (n41 + (1 : Int))) fun n1294 =>
                             ∃ k1295 : Nat,
                             (
                              k1295 < k42) ∧
                             I30 k1295 [Value.slice p32 k33 k34, Value.int IntKind.i64 n35, Value.bool b36, Value.int IntKind.i64 n37, Value.slice p38 k39 k40, Value.int IntKind.i64 n1294] w1290)))))))
                (
                 Br (n49 == (4 : Int))
                  (
                   Br (decide ((↑k33 : Int) > (0 : Int)))
                    (
                     (
                      (↑k33 : Int) ≠ (0 : Int)) ∧
                     LetI (n46.tmod (↑k33 : Int)) fun n1296 =>
                     NilOk p32 fun a1297 =>
                     (
                      (
                       (0 : Int) ≤ n1296) ∧
                      n1296 < (↑k33 : Int)) ∧
                     ∃ n1298 : Int,
                     ∃ n1299 : Int,
                     ∃ n1300 : Int,
                     ∃ s1301 : ByteArray,
                     (
                      Row w43 (a1297.add (n1296.toNat * (4 : Nat))) (0 : Nat) [Value.int IntKind.i64 n1298, Value.int IntKind.i64 n1299, Value.int IntKind.i64 n1300, Value.string s1301]) ∧
                     Ca Try.prog (10 : Nat) #[Value.pointer p29, Value.agg #[Value.int IntKind.i64 n1298, Value.int IntKind.i64 n1299, Value.int IntKind.i64 n1300, Value.string s1301]] w43 fun e1302 w1303 =>
                     ∃ n1304 : Int,
                     ∃ n1305 : Int,
                     (
                      e1302 = Ending.returned (Value.tuple #[Value.int IntKind.i64 n1304, Value.int IntKind.i64 n1305])) ∧
                     Br (n1304 != (7 : Int))
                      (
                       R (Ending.returned (Value.bool false)) w1303)
                      (
                       Br (decide (n1305 < n37))
                        (
                         R (Ending.returned (Value.bool false)) w1303)
                        (
                         LetI (IntKind.i64.wrap (n37 + (1 : Int))) fun n1306 =>
                         Br (decide (n1305 > n1306))
                          (
                           R (Ending.returned (Value.bool false)) w1303)
                          (
                           Br (decide (n1305 > n35))
                            (
                             R (Ending.returned (Value.bool false)) w1303)
                            (
                             LetA (Obj.cells #[Value.int IntKind.i64 n1305] (3 : Nat)) w1303 fun b1307 w1308 =>
                             RunsV Try.prog (Builtin.append_ #[(57 : Nat), (57 : Nat)] (57 : Nat) #[Value.slice p38 k39 k40, Value.slice (some { block := b1307, off := (0 : Nat) }) (1 : Nat) (1 : Nat)]) w1308 fun v1309 w1310 =>
                             ∃ p1311 : Option Addr,
                             ∃ k1312 : Nat,
                             ∃ k1313 : Nat,
                             (
                              v1309 = Value.slice p1311 k1312 k1313) ∧
                             Ca Try.prog (12 : Nat) #[Value.pointer p29] w1310 fun e1314 w1315 =>
                             ∃ s1316 : ByteArray,
                             ∃ b1317 : Bool,
                             (
                              e1314 = Ending.returned (Value.tuple #[Value.string s1316, Value.bool b1317])) ∧
                             Br (b1317)
                              (
                               Br (!s1316.toList == s1.toList)
                                (
                                 R (Ending.returned (Value.bool false)) w1315)
                                (
                                 Ca Try.prog (18 : Nat) #[Value.pointer p25] w1315 fun e1318 w1319 =>
                                 ∃ n1320 : Int,
                                 (
                                  e1318 = Ending.returned (Value.int IntKind.i64 n1320)) ∧
                                 Br (decide (n1320 > n1305))
                                  (
                                   R (Ending.returned (Value.bool false)) w1319)
                                  (
                                   Ca Try.prog (13 : Nat) #[Value.pointer p25] w1319 fun e1321 w1322 =>
                                   ∃ b1323 : Bool,
                                   (
                                    e1321 = Ending.returned (Value.bool b1323)) ∧
                                   Br (b1323)
                                    (
                                     Br (!b1317)
                                      (
                                       R (Ending.returned (Value.bool false)) w1322)
                                      (
                                       LetI (IntKind.i64.wrap (n41 + (1 : Int))) fun n1324 =>
                                       ∃ k1325 : Nat,
                                       (
                                        k1325 < k42) ∧
                                       I30 k1325 [Value.slice p32 k33 k34, Value.int IntKind.i64 n35, Value.bool b36, Value.int IntKind.i64 n1305, Value.slice p1311 k1312 k1313, Value.int IntKind.i64 n1324] w1322))
                                    (
                                     LetI (IntKind.i64.wrap (n41 + (1 : Int))) fun n1326 =>
                                     ∃ k1327 : Nat,
                                     (
                                      k1327 < k42) ∧
                                     I30 k1327 [Value.slice p32 k33 k34, Value.int IntKind.i64 n35, Value.bool b36, Value.int IntKind.i64 n1305, Value.slice p1311 k1312 k1313, Value.int IntKind.i64 n1326] w1322))))
                              (
                               Ca Try.prog (18 : Nat) #[Value.pointer p25] w1315 fun e1328 w1329 =>
                               ∃ n1330 : Int,
                               (
                                e1328 = Ending.returned (Value.int IntKind.i64 n1330)) ∧
                               Br (decide (n1330 > n1305))
                                (
                                 R (Ending.returned (Value.bool false)) w1329)
                                (
                                 Ca Try.prog (13 : Nat) #[Value.pointer p25] w1329 fun e1331 w1332 =>
                                 ∃ b1333 : Bool,
                                 (
                                  e1331 = Ending.returned (Value.bool b1333)) ∧
                                 Br (b1333)
                                  (
                                   Br (!b1317)
                                    (
                                     R (Ending.returned (Value.bool false)) w1332)
                                    (
                                     LetI (IntKind.i64.wrap (n41 + (1 : Int))) fun n1334 =>
                                     ∃ k1335 : Nat,
                                     (
                                      k1335 < k42) ∧
                                     I30 k1335 [Value.slice p32 k33 k34, Value.int IntKind.i64 n35, Value.bool b36, Value.int IntKind.i64 n1305, Value.slice p1311 k1312 k1313, Value.int IntKind.i64 n1334] w1332))
                                  (
                                   LetI (IntKind.i64.wrap (n41 + (1 : Int))) fun n1336 =>
                                   ∃ k1337 : Nat,
                                   (
                                    k1337 < k42) ∧
                                   I30 k1337 [Value.slice p32 k33 k34, Value.int IntKind.i64 n35, Value.bool b36, Value.int IntKind.i64 n1305, Value.slice p1311 k1312 k1313, Value.int IntKind.i64 n1336] w1332))))))))
                    (
                     Ca Try.prog (12 : Nat) #[Value.pointer p29] w43 fun e1338 w1339 =>
                     ∃ s1340 : ByteArray,
                     ∃ b1341 : Bool,
                     (
                      e1338 = Ending.returned (Value.tuple #[Value.string s1340, Value.bool b1341])) ∧
                     Br (b1341)
                      (
                       Br (!s1340.toList == s1.toList)
                        (
                         R (Ending.returned (Value.bool false)) w1339)
                        (
                         Ca Try.prog (18 : Nat) #[Value.pointer p25] w1339 fun e1342 w1343 =>
                         ∃ n1344 : Int,
                         (
                          e1342 = Ending.returned (Value.int IntKind.i64 n1344)) ∧
                         Br (decide (n1344 > n37))
                          (
                           R (Ending.returned (Value.bool false)) w1343)
                          (
                           Ca Try.prog (13 : Nat) #[Value.pointer p25] w1343 fun e1345 w1346 =>
                           ∃ b1347 : Bool,
                           (
                            e1345 = Ending.returned (Value.bool b1347)) ∧
                           Br (b1347)
                            (
                             Br (!b1341)
                              (
                               R (Ending.returned (Value.bool false)) w1346)
                              (
                               LetI (IntKind.i64.wrap (n41 + (1 : Int))) fun n1348 =>
                               ∃ k1349 : Nat,
                               (
                                k1349 < k42) ∧
                               I30 k1349 [Value.slice p32 k33 k34, Value.int IntKind.i64 n35, Value.bool b36, Value.int IntKind.i64 n37, Value.slice p38 k39 k40, Value.int IntKind.i64 n1348] w1346))
                            (
                             LetI (IntKind.i64.wrap (n41 + (1 : Int))) fun n1350 =>
                             ∃ k1351 : Nat,
                             (
                              k1351 < k42) ∧
                             I30 k1351 [Value.slice p32 k33 k34, Value.int IntKind.i64 n35, Value.bool b36, Value.int IntKind.i64 n37, Value.slice p38 k39 k40, Value.int IntKind.i64 n1350] w1346))))
                      (
                       Ca Try.prog (18 : Nat) #[Value.pointer p25] w1339 fun e1352 w1353 =>
                       ∃ n1354 : Int,
                       (
                        e1352 = Ending.returned (Value.int IntKind.i64 n1354)) ∧
                       Br (decide (n1354 > n37))
                        (
                         R (Ending.returned (Value.bool false)) w1353)
                        (
                         Ca Try.prog (13 : Nat) #[Value.pointer p25] w1353 fun e1355 w1356 =>
                         ∃ b1357 : Bool,
                         (
                          e1355 = Ending.returned (Value.bool b1357)) ∧
                         Br (b1357)
                          (
                           Br (!b1341)
                            (
                             R (Ending.returned (Value.bool false)) w1356)
                            (
                             LetI (IntKind.i64.wrap (n41 + (1 : Int))) fun n1358 =>
                             ∃ k1359 : Nat,
                             (
                              k1359 < k42) ∧
                             I30 k1359 [Value.slice p32 k33 k34, Value.int IntKind.i64 n35, Value.bool b36, Value.int IntKind.i64 n37, Value.slice p38 k39 k40, Value.int IntKind.i64 n1358] w1356))
                          (
                           LetI (IntKind.i64.wrap (n41 + (1 : Int))) fun n1360 =>
                           ∃ k1361 : Nat,
                           (
                            k1361 < k42) ∧
                           I30 k1361 [Value.slice p32 k33 k34, Value.int IntKind.i64 n35, Value.bool b36, Value.int IntKind.i64 n37, Value.slice p38 k39 k40, Value.int IntKind.i64 n1360] w1356)))))
                  (
                   Br (n49 == (5 : Int))
                    (
                     Br (decide ((↑k33 : Int) > (0 : Int)))
                      (
                       (
                        (↑k33 : Int) ≠ (0 : Int)) ∧
                       LetI (n46.tmod (↑k33 : Int)) fun n1362 =>
                       (
                        (
                         (0 : Int) ≤ (0 : Int)) ∧
                        (
                         (0 : Int) ≤ n1362) ∧
                        (
                         n1362 ≤ (↑k34 : Int)) ∧
                        (
                         (↑k34 : Int) ≤ (↑k34 : Int)) ∧
                        (
                         (
                          false = true) →
                         true = true)) ∧
                       LetI (IntKind.i64.wrap (n1362 + (1 : Int))) fun n1363 =>
                       (
                        (
                         (0 : Int) ≤ n1363) ∧
                        (
                         n1363 ≤ (↑k33 : Int)) ∧
                        (
                         (↑k33 : Int) ≤ (↑k34 : Int)) ∧
                        (
                         (↑k34 : Int) ≤ (↑k34 : Int)) ∧
                        (
                         (
                          false = true) →
                         false = true)) ∧
                       RunsV Try.prog (Builtin.append_ #[(56 : Nat), (56 : Nat)] (56 : Nat) #[Value.slice none (0 : Nat) (0 : Nat), Value.slice (if (↑k34 : Int).toNat = Int.toNat (0 : Int) then p32 else Option.map (fun x => x.add (Int.toNat (0 : Int) * sizeT Try.prog (32 : Nat))) p32) (n1362.toNat - (0 : Nat)) ((↑k34 : Int).toNat - (0 : Nat))]) w43 fun v1364 w1365 =>
                       ∃ p1366 : Option Addr,
                       ∃ k1367 : Nat,
                       ∃ k1368 : Nat,
                       (
                        v1364 = Value.slice p1366 k1367 k1368) ∧
                       RunsV Try.prog (Builtin.append_ #[(56 : Nat), (56 : Nat)] (56 : Nat) #[Value.slice p1366 k1367 k1368, Value.slice (if (↑k34 : Int).toNat = n1363.toNat then p32 else Option.map (fun x => x.add (n1363.toNat * sizeT Try.prog (32 : Nat))) p32) ((↑k33 : Int).toNat - n1363.toNat) ((↑k34 : Int).toNat - n1363.toNat)]) w1365 fun v1369 w1370 =>
                       ∃ p1371 : Option Addr,
                       ∃ k1372 : Nat,
                       ∃ k1373 : Nat,
                       (
                        v1369 = Value.slice p1371 k1372 k1373) ∧
                       Ca Try.prog (12 : Nat) #[Value.pointer p29] w1370 fun e1374 w1375 =>
                       ∃ s1376 : ByteArray,
                       ∃ b1377 : Bool,
                       (
                        e1374 = Ending.returned (Value.tuple #[Value.string s1376, Value.bool b1377])) ∧
                       Br (b1377)
                        (
                         Br (!s1376.toList == s1.toList)
                          (
                           R (Ending.returned (Value.bool false)) w1375)
                          (
                           Ca Try.prog (18 : Nat) #[Value.pointer p25] w1375 fun e1378 w1379 =>
                           ∃ n1380 : Int,
                           (
                            e1378 = Ending.returned (Value.int IntKind.i64 n1380)) ∧
                           Br (decide (n1380 > n37))
                            (
                             R (Ending.returned (Value.bool false)) w1379)
                            (
                             Ca Try.prog (13 : Nat) #[Value.pointer p25] w1379 fun e1381 w1382 =>
                             ∃ b1383 : Bool,
                             (
                              e1381 = Ending.returned (Value.bool b1383)) ∧
                             Br (b1383)
                              (
                               Br (!b1377)
                                (
                                 R (Ending.returned (Value.bool false)) w1382)
                                (
                                 LetI (IntKind.i64.wrap (n41 + (1 : Int))) fun n1384 =>
                                 ∃ k1385 : Nat,
                                 (
                                  k1385 < k42) ∧
                                 I30 k1385 [Value.slice p1371 k1372 k1373, Value.int IntKind.i64 n35, Value.bool b36, Value.int IntKind.i64 n37, Value.slice p38 k39 k40, Value.int IntKind.i64 n1384] w1382))
                              (
                               LetI (IntKind.i64.wrap (n41 + (1 : Int))) fun n1386 =>
                               ∃ k1387 : Nat,
                               (
                                k1387 < k42) ∧
                               I30 k1387 [Value.slice p1371 k1372 k1373, Value.int IntKind.i64 n35, Value.bool b36, Value.int IntKind.i64 n37, Value.slice p38 k39 k40, Value.int IntKind.i64 n1386] w1382))))
                        (
                         Ca Try.prog (18 : Nat) #[Value.pointer p25] w1375 fun e1388 w1389 =>
                         ∃ n1390 : Int,
                         (
                          e1388 = Ending.returned (Value.int IntKind.i64 n1390)) ∧
                         Br (decide (n1390 > n37))
                          (
                           R (Ending.returned (Value.bool false)) w1389)
                          (
                           Ca Try.prog (13 : Nat) #[Value.pointer p25] w1389 fun e1391 w1392 =>
                           ∃ b1393 : Bool,
                           (
                            e1391 = Ending.returned (Value.bool b1393)) ∧
                           Br (b1393)
                            (
                             Br (!b1377)
                              (
                               R (Ending.returned (Value.bool false)) w1392)
                              (
                               LetI (IntKind.i64.wrap (n41 + (1 : Int))) fun n1394 =>
                               ∃ k1395 : Nat,
                               (
                                k1395 < k42) ∧
                               I30 k1395 [Value.slice p1371 k1372 k1373, Value.int IntKind.i64 n35, Value.bool b36, Value.int IntKind.i64 n37, Value.slice p38 k39 k40, Value.int IntKind.i64 n1394] w1392))
                            (
                             LetI (IntKind.i64.wrap (n41 + (1 : Int))) fun n1396 =>
                             ∃ k1397 : Nat,
                             (
                              k1397 < k42) ∧
                             I30 k1397 [Value.slice p1371 k1372 k1373, Value.int IntKind.i64 n35, Value.bool b36, Value.int IntKind.i64 n37, Value.slice p38 k39 k40, Value.int IntKind.i64 n1396] w1392))))
                      (
                       Ca Try.prog (12 : Nat) #[Value.pointer p29] w43 fun e1398 w1399 =>
                       ∃ s1400 : ByteArray,
                       ∃ b1401 : Bool,
                       (
                        e1398 = Ending.returned (Value.tuple #[Value.string s1400, Value.bool b1401])) ∧
                       Br (b1401)
                        (
                         Br (!s1400.toList == s1.toList)
                          (
                           R (Ending.returned (Value.bool false)) w1399)
                          (
                           Ca Try.prog (18 : Nat) #[Value.pointer p25] w1399 fun e1402 w1403 =>
                           ∃ n1404 : Int,
                           (
                            e1402 = Ending.returned (Value.int IntKind.i64 n1404)) ∧
                           Br (decide (n1404 > n37))
                            (
                             R (Ending.returned (Value.bool false)) w1403)
                            (
                             Ca Try.prog (13 : Nat) #[Value.pointer p25] w1403 fun e1405 w1406 =>
                             ∃ b1407 : Bool,
                             (
                              e1405 = Ending.returned (Value.bool b1407)) ∧
                             Br (b1407)
                              (
                               Br (!b1401)
                                (
                                 R (Ending.returned (Value.bool false)) w1406)
                                (
                                 LetI (IntKind.i64.wrap (n41 + (1 : Int))) fun n1408 =>
                                 ∃ k1409 : Nat,
                                 (
                                  k1409 < k42) ∧
                                 I30 k1409 [Value.slice p32 k33 k34, Value.int IntKind.i64 n35, Value.bool b36, Value.int IntKind.i64 n37, Value.slice p38 k39 k40, Value.int IntKind.i64 n1408] w1406))
                              (
                               LetI (IntKind.i64.wrap (n41 + (1 : Int))) fun n1410 =>
                               ∃ k1411 : Nat,
                               (
                                k1411 < k42) ∧
                               I30 k1411 [Value.slice p32 k33 k34, Value.int IntKind.i64 n35, Value.bool b36, Value.int IntKind.i64 n37, Value.slice p38 k39 k40, Value.int IntKind.i64 n1410] w1406))))
                        (
                         Ca Try.prog (18 : Nat) #[Value.pointer p25] w1399 fun e1412 w1413 =>
                         ∃ n1414 : Int,
                         (
                          e1412 = Ending.returned (Value.int IntKind.i64 n1414)) ∧
                         Br (decide (n1414 > n37))
                          (
                           R (Ending.returned (Value.bool false)) w1413)
                          (
                           Ca Try.prog (13 : Nat) #[Value.pointer p25] w1413 fun e1415 w1416 =>
                           ∃ b1417 : Bool,
                           (
                            e1415 = Ending.returned (Value.bool b1417)) ∧
                           Br (b1417)
                            (
                             Br (!b1401)
                              (
                               R (Ending.returned (Value.bool false)) w1416)
                              (
                               LetI (IntKind.i64.wrap (n41 + (1 : Int))) fun n1418 =>
                               ∃ k1419 : Nat,
                               (
                                k1419 < k42) ∧
                               I30 k1419 [Value.slice p32 k33 k34, Value.int IntKind.i64 n35, Value.bool b36, Value.int IntKind.i64 n37, Value.slice p38 k39 k40, Value.int IntKind.i64 n1418] w1416))
                            (
                             LetI (IntKind.i64.wrap (n41 + (1 : Int))) fun n1420 =>
                             ∃ k1421 : Nat,
                             (
                              k1421 < k42) ∧
                             I30 k1421 [Value.slice p32 k33 k34, Value.int IntKind.i64 n35, Value.bool b36, Value.int IntKind.i64 n37, Value.slice p38 k39 k40, Value.int IntKind.i64 n1420] w1416)))))
                    (
                     Br (n49 == (6 : Int))
                      (
                       Br (decide ((↑k39 : Int) > (0 : Int)))
                        (
                         (
                          (↑k39 : Int) ≠ (0 : Int)) ∧
                         LetI (n46.tmod (↑k39 : Int)) fun n1422 =>
                         NilOk p38 fun a1423 =>
                         (
                          (
                           (0 : Int) ≤ n1422) ∧
                          n1422 < (↑k39 : Int)) ∧
                         ∃ n1424 : Int,
                         (
                          w43.cell? (a1423.add (n1422.toNat * (1 : Nat))) = some (Value.int IntKind.i64 n1424)) ∧
                         Ca Try.prog (11 : Nat) #[Value.pointer p25, Value.int IntKind.i64 (7 : Int), Value.int IntKind.i64 n1424] w43 fun e1425 w1426 =>
                         ∃ n1427 : Int,
                         (
                          e1425 = Ending.returned (Value.int IntKind.i64 n1427)) ∧
                         Br (n1427 != (0 : Int))
                          (
                           R (Ending.returned (Value.bool false)) w1426)
                          (
                           Ca Try.prog (12 : Nat) #[Value.pointer p29] w1426 fun e1428 w1429 =>
                           ∃ s1430 : ByteArray,
                           ∃ b1431 : Bool,
                           (
                            e1428 = Ending.returned (Value.tuple #[Value.string s1430, Value.bool b1431])) ∧
                           Br (b1431)
                            (
                             Br (!s1430.toList == s1.toList)
                              (
                               R (Ending.returned (Value.bool false)) w1429)
                              (
                               Ca Try.prog (18 : Nat) #[Value.pointer p25] w1429 fun e1432 w1433 =>
                               ∃ n1434 : Int,
                               (
                                e1432 = Ending.returned (Value.int IntKind.i64 n1434)) ∧
                               Br (decide (n1434 > n37))
                                (
                                 R (Ending.returned (Value.bool false)) w1433)
                                (
                                 Ca Try.prog (13 : Nat) #[Value.pointer p25] w1433 fun e1435 w1436 =>
                                 ∃ b1437 : Bool,
                                 (
                                  e1435 = Ending.returned (Value.bool b1437)) ∧
                                 Br (b1437)
                                  (
                                   Br (!b1431)
                                    (
                                     R (Ending.returned (Value.bool false)) w1436)
                                    (
                                     LetI (IntKind.i64.wrap (n41 + (1 : Int))) fun n1438 =>
                                     ∃ k1439 : Nat,
                                     (
                                      k1439 < k42) ∧
                                     I30 k1439 [Value.slice p32 k33 k34, Value.int IntKind.i64 n35, Value.bool b36, Value.int IntKind.i64 n37, Value.slice p38 k39 k40, Value.int IntKind.i64 n1438] w1436))
                                  (
                                   LetI (IntKind.i64.wrap (n41 + (1 : Int))) fun n1440 =>
                                   ∃ k1441 : Nat,
                                   (
                                    k1441 < k42) ∧
                                   I30 k1441 [Value.slice p32 k33 k34, Value.int IntKind.i64 n35, Value.bool b36, Value.int IntKind.i64 n37, Value.slice p38 k39 k40, Value.int IntKind.i64 n1440] w1436))))
                            (
                             Ca Try.prog (18 : Nat) #[Value.pointer p25] w1429 fun e1442 w1443 =>
                             ∃ n1444 : Int,
                             (
                              e1442 = Ending.returned (Value.int IntKind.i64 n1444)) ∧
                             Br (decide (n1444 > n37))
                              (
                               R (Ending.returned (Value.bool false)) w1443)
                              (
                               Ca Try.prog (13 : Nat) #[Value.pointer p25] w1443 fun e1445 w1446 =>
                               ∃ b1447 : Bool,
                               (
                                e1445 = Ending.returned (Value.bool b1447)) ∧
                               Br (b1447)
                                (
                                 Br (!b1431)
                                  (
                                   R (Ending.returned (Value.bool false)) w1446)
                                  (
                                   LetI (IntKind.i64.wrap (n41 + (1 : Int))) fun n1448 =>
                                   ∃ k1449 : Nat,
                                   (
                                    k1449 < k42) ∧
                                   I30 k1449 [Value.slice p32 k33 k34, Value.int IntKind.i64 n35, Value.bool b36, Value.int IntKind.i64 n37, Value.slice p38 k39 k40, Value.int IntKind.i64 n1448] w1446))
                                (
                                 LetI (IntKind.i64.wrap (n41 + (1 : Int))) fun n1450 =>
                                 ∃ k1451 : Nat,
                                 (
                                  k1451 < k42) ∧
                                 I30 k1451 [Value.slice p32 k33 k34, Value.int IntKind.i64 n35, Value.bool b36, Value.int IntKind.i64 n37, Value.slice p38 k39 k40, Value.int IntKind.i64 n1450] w1446)))))
                        (
                         Ca Try.prog (12 : Nat) #[Value.pointer p29] w43 fun e1452 w1453 =>
                         ∃ s1454 : ByteArray,
                         ∃ b1455 : Bool,
                         (
                          e1452 = Ending.returned (Value.tuple #[Value.string s1454, Value.bool b1455])) ∧
                         Br (b1455)
                          (
                           Br (!s1454.toList == s1.toList)
                            (
                             R (Ending.returned (Value.bool false)) w1453)
                            (
                             Ca Try.prog (18 : Nat) #[Value.pointer p25] w1453 fun e1456 w1457 =>
                             ∃ n1458 : Int,
                             (
                              e1456 = Ending.returned (Value.int IntKind.i64 n1458)) ∧
                             Br (decide (n1458 > n37))
                              (
                               R (Ending.returned (Value.bool false)) w1457)
                              (
                               Ca Try.prog (13 : Nat) #[Value.pointer p25] w1457 fun e1459 w1460 =>
                               ∃ b1461 : Bool,
                               (
                                e1459 = Ending.returned (Value.bool b1461)) ∧
                               Br (b1461)
                                (
                                 Br (!b1455)
                                  (
                                   R (Ending.returned (Value.bool false)) w1460)
                                  (
                                   LetI (IntKind.i64.wrap (n41 + (1 : Int))) fun n1462 =>
                                   ∃ k1463 : Nat,
                                   (
                                    k1463 < k42) ∧
                                   I30 k1463 [Value.slice p32 k33 k34, Value.int IntKind.i64 n35, Value.bool b36, Value.int IntKind.i64 n37, Value.slice p38 k39 k40, Value.int IntKind.i64 n1462] w1460))
                                (
                                 LetI (IntKind.i64.wrap (n41 + (1 : Int))) fun n1464 =>
                                 ∃ k1465 : Nat,
                                 (
                                  k1465 < k42) ∧
                                 I30 k1465 [Value.slice p32 k33 k34, Value.int IntKind.i64 n35, Value.bool b36, Value.int IntKind.i64 n37, Value.slice p38 k39 k40, Value.int IntKind.i64 n1464] w1460))))
                          (
                           Ca Try.prog (18 : Nat) #[Value.pointer p25] w1453 fun e1466 w1467 =>
                           ∃ n1468 : Int,
                           (
                            e1466 = Ending.returned (Value.int IntKind.i64 n1468)) ∧
                           Br (decide (n1468 > n37))
                            (
                             R (Ending.returned (Value.bool false)) w1467)
                            (
                             Ca Try.prog (13 : Nat) #[Value.pointer p25] w1467 fun e1469 w1470 =>
                             ∃ b1471 : Bool,
                             (
                              e1469 = Ending.returned (Value.bool b1471)) ∧
                             Br (b1471)
                              (
                               Br (!b1455)
                                (
                                 R (Ending.returned (Value.bool false)) w1470)
                                (
                                 LetI (IntKind.i64.wrap (n41 + (1 : Int))) fun n1472 =>
                                 ∃ k1473 : Nat,
                                 (
                                  k1473 < k42) ∧
                                 I30 k1473 [Value.slice p32 k33 k34, Value.int IntKind.i64 n35, Value.bool b36, Value.int IntKind.i64 n37, Value.slice p38 k39 k40, Value.int IntKind.i64 n1472] w1470))
                              (
                               LetI (IntKind.i64.wrap (n41 + (1 : Int))) fun n1474 =>
                               ∃ k1475 : Nat,
                               (
                                k1475 < k42) ∧
                               I30 k1475 [Value.slice p32 k33 k34, Value.int IntKind.i64 n35, Value.bool b36, Value.int IntKind.i64 n37, Value.slice p38 k39 k40, Value.int IntKind.i64 n1474] w1470)))))
                      (
                       Ca Try.prog (16 : Nat) #[Value.pointer p25] w43 fun e1476 w1477 =>
                       (
                        e1476 = Ending.returned (Value.tuple #[])) ∧
                       Ca Try.prog (12 : Nat) #[Value.pointer p29] w1477 fun e1478 w1479 =>
                       ∃ s1480 : ByteArray,
                       ∃ b1481 : Bool,
                       (
                        e1478 = Ending.returned (Value.tuple #[Value.string s1480, Value.bool b1481])) ∧
                       Br (b1481)
                        (
                         Br (!s1480.toList == s1.toList)
                          (
                           R (Ending.returned (Value.bool false)) w1479)
                          (
                           Ca Try.prog (18 : Nat) #[Value.pointer p25] w1479 fun e1482 w1483 =>
                           ∃ n1484 : Int,
                           (
                            e1482 = Ending.returned (Value.int IntKind.i64 n1484)) ∧
                           Br (decide (n1484 > n37))
                            (
                             R (Ending.returned (Value.bool false)) w1483)
                            (
                             Ca Try.prog (13 : Nat) #[Value.pointer p25] w1483 fun e1485 w1486 =>
                             ∃ b1487 : Bool,
                             (
                              e1485 = Ending.returned (Value.bool b1487)) ∧
                             Br (b1487)
                              (
                               Br (!b1481)
                                (
                                 R (Ending.returned (Value.bool false)) w1486)
                                (
                                 LetI (IntKind.i64.wrap (n41 + (1 : Int))) fun n1488 =>
                                 ∃ k1489 : Nat,
                                 (
                                  k1489 < k42) ∧
                                 I30 k1489 [Value.slice p32 k33 k34, Value.int IntKind.i64 n35, Value.bool b36, Value.int IntKind.i64 n37, Value.slice p38 k39 k40, Value.int IntKind.i64 n1488] w1486))
                              (
                               LetI (IntKind.i64.wrap (n41 + (1 : Int))) fun n1490 =>
                               ∃ k1491 : Nat,
                               (
                                k1491 < k42) ∧
                               I30 k1491 [Value.slice p32 k33 k34, Value.int IntKind.i64 n35, Value.bool b36, Value.int IntKind.i64 n37, Value.slice p38 k39 k40, Value.int IntKind.i64 n1490] w1486))))
                        (
                         Ca Try.prog (18 : Nat) #[Value.pointer p25] w1479 fun e1492 w1493 =>
                         ∃ n1494 : Int,
                         (
                          e1492 = Ending.returned (Value.int IntKind.i64 n1494)) ∧
                         Br (decide (n1494 > n37))
                          (
                           R (Ending.returned (Value.bool false)) w1493)
                          (
                           Ca Try.prog (13 : Nat) #[Value.pointer p25] w1493 fun e1495 w1496 =>
                           ∃ b1497 : Bool,
                           (
                            e1495 = Ending.returned (Value.bool b1497)) ∧
                           Br (b1497)
                            (
                             Br (!b1481)
                              (
                               R (Ending.returned (Value.bool false)) w1496)
                              (
                               LetI (IntKind.i64.wrap (n41 + (1 : Int))) fun n1498 =>
                               ∃ k1499 : Nat,
                               (
                                k1499 < k42) ∧
                               I30 k1499 [Value.slice p32 k33 k34, Value.int IntKind.i64 n35, Value.bool b36, Value.int IntKind.i64 n37, Value.slice p38 k39 k40, Value.int IntKind.i64 n1498] w1496))
                            (
                             LetI (IntKind.i64.wrap (n41 + (1 : Int))) fun n1500 =>
                             ∃ k1501 : Nat,
                             (
                              k1501 < k42) ∧
                             I30 k1501 [Value.slice p32 k33 k34, Value.int IntKind.i64 n35, Value.bool b36, Value.int IntKind.i64 n37, Value.slice p38 k39 k40, Value.int IntKind.i64 n1500] w1496)))))))))))
        (
         Ca Try.prog (6 : Nat) #[] w43 fun e1502 w1503 =>
         ∃ b1504 : Bool,
         (
          e1502 = Ending.returned (Value.bool b1504)) ∧
         R (Ending.returned (Value.bool b1504)) w1503))))
theorem lawTWhole_ok (s1 : ByteArray) (n2 : Int) (n3 : Int) (p4 : Option Addr) (k5 : Nat) (k6 : Nat) (w : World) (R : Ending → World → Prop) (h : lawTWhole s1 n2 n3 p4 k5 k6 w R) : Ca Try.prog 5 #[Value.string s1, Value.agg #[Value.int IntKind.u8 n2, Value.int IntKind.u8 n3], Value.slice p4 k5 k6] w R :=
  Ca.of_fvc (c := bodyOf Try.f5) (by kernel_rfl) Try.func5 (by kernel_rfl) [] (Eq.mp (by kernel_rfl) h)

end Go.Proofs.Ytdiejbojobbboaa
