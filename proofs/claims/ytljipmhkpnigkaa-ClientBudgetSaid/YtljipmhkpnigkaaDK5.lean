/- The verification conditions of this seat's functions, printed by a program; the kernel holds each against the loaded code. -/
import Derived.Test.YtljipmhkpnigkaaProg
import Derived.KernelRfl
import Derived.Test.YtljipmhkpnigkaaV5
set_option maxRecDepth 100000
namespace Go.Proofs.Ytljipmhkpnigkaa
open Go Go.Vc Go.Proofs
def ktake (b1 : Nat) (n2 : Int) (n3 : Int) (n4 : Int) (n5 : Int) (n6 : Int) (n7 : Int) (n8 : Int) (n9 : Int) (s10 : ByteArray) (s11 : ByteArray) (n12 : Int) (n13 : Int) (s14 : ByteArray) (n15 : Int) (n16 : Int) (n17 : Int) (n18 : Int) (n19 : Int) (n20 : Int) (n21 : Int) (s22 : ByteArray) (s23 : ByteArray) (n24 : Int) (n25 : Int) (p26 : Option Addr) (k27 : Nat) (k28 : Nat) (n29 : Int) (n30 : Int) (n31 : Int) (n32 : Int) (n33 : Int) (w : World) (R : Ending → World → Prop) : Prop :=
 LetA (Obj.cells #[Value.int IntKind.i64 n2, Value.int IntKind.i64 n3, Value.int IntKind.i64 n4, Value.int IntKind.i64 n5, Value.int IntKind.i64 n6, Value.int IntKind.i64 n7, Value.int IntKind.i64 n8, Value.int IntKind.i64 n9, Value.string s10, Value.string s11, Value.int IntKind.i64 n12, Value.int IntKind.i64 n13, Value.string s14, Value.int IntKind.i64 n15, Value.int IntKind.i64 n16, Value.int IntKind.i64 n17, Value.int IntKind.i64 n18, Value.int IntKind.i64 n19, Value.int IntKind.i64 n20, Value.int IntKind.i64 n21, Value.string s22, Value.string s23, Value.int IntKind.i64 n24, Value.int IntKind.i64 n25, Value.slice p26 k27 k28, Value.int IntKind.i64 n29, Value.int IntKind.i64 n30, Value.int IntKind.i64 n31, Value.int IntKind.i64 n32] (53 : Nat)) w fun b34 w35 =>
 Ca Try.prog (70 : Nat) #[Value.pointer (some { block := b1, off := (0 : Nat) })] w35 fun e36 w37 =>
 ∃ b38 : Bool,
 (
  e36 = Ending.returned (Value.bool b38)) ∧
 Br (b38)
  (
   R (Ending.returned (Value.slice none (0 : Nat) (0 : Nat))) w37)
  (
   ∃ I39 : List Value → World → Prop,
   (
    Ca Try.prog (74 : Nat) #[Value.int IntKind.i64 n33] w37 fun e40 w41 =>
    ∃ n42 : Int,
    (
     e40 = Ending.returned (Value.int IntKind.i64 n42)) ∧
    I39 [Value.int IntKind.i64 n42] w41) ∧
   ∀ n43 : Int,
   ∀ w44 : World,
   (
    I39 [Value.int IntKind.i64 n43] w44) →
   ∃ n45 : Int,
   (
    w44.cell? { block := b34, off := (2 : Nat) } = some (Value.int IntKind.i64 n45)) ∧
   ∃ n46 : Int,
   (
    w44.cell? { block := b1, off := (12 : Nat) } = some (Value.int IntKind.i64 n46)) ∧
   Br (n45 == n46)
    (
     ∃ n47 : Int,
     (
      w44.cell? { block := b34, off := (3 : Nat) } = some (Value.int IntKind.i64 n47)) ∧
     ∃ n48 : Int,
     (
      w44.cell? { block := b1, off := (21 : Nat) } = some (Value.int IntKind.i64 n48)) ∧
     Br (n47 == n48)
      (
       ∃ n49 : Int,
       (
        w44.cell? { block := b1, off := (47 : Nat) } = some (Value.int IntKind.i64 n49)) ∧
       ∃ n50 : Int,
       (
        w44.cell? { block := b34, off := (0 : Nat) } = some (Value.int IntKind.i64 n50)) ∧
       Br (n50 == (8 : Int))
        (
         ∃ n51 : Int,
         ∃ p52 : Option Addr,
         ∃ k53 : Nat,
         ∃ k54 : Nat,
         ∃ n55 : Int,
         (
          Row w44 { block := b34, off := (23 : Nat) } (0 : Nat) [Value.int IntKind.i64 n51, Value.slice p52 k53 k54, Value.int IntKind.i64 n55]) ∧
         Ca Try.prog (21 : Nat) #[Value.agg #[Value.int IntKind.i64 n51, Value.slice p52 k53 k54, Value.int IntKind.i64 n55]] w44 fun e56 w57 =>
         ∃ n58 : Int,
         (
          e56 = Ending.returned (Value.int IntKind.i64 n58)) ∧
         Br (n58 == (0 : Int))
          (
           ∃ n59 : Int,
           (
            w57.cell? { block := b34, off := (23 : Nat) } = some (Value.int IntKind.i64 n59)) ∧
           ∃ n60 : Int,
           (
            w57.cell? { block := b1, off := (13 : Nat) } = some (Value.int IntKind.i64 n60)) ∧
           Br (decide (n59 ≥ n60))
            (
             ∃ n61 : Int,
             ∃ p62 : Option Addr,
             ∃ k63 : Nat,
             ∃ k64 : Nat,
             ∃ n65 : Int,
             (
              Row w57 { block := b34, off := (23 : Nat) } (0 : Nat) [Value.int IntKind.i64 n61, Value.slice p62 k63 k64, Value.int IntKind.i64 n65]) ∧
             (
              WrRow w57 { block := b1, off := (13 : Nat) } (0 : Nat) [Value.int IntKind.i64 n61, Value.slice p62 k63 k64, Value.int IntKind.i64 n65]) ∧
             LetW (setRow w57 { block := b1, off := (13 : Nat) } (0 : Nat) [Value.int IntKind.i64 n61, Value.slice p62 k63 k64, Value.int IntKind.i64 n65]) fun w66 =>
             ∃ p67 : Option Addr,
             ∃ k68 : Nat,
             ∃ k69 : Nat,
             (
              w66.cell? { block := b34, off := (24 : Nat) } = some (Value.slice p67 k68 k69)) ∧
             RunsV Try.prog (Builtin.append_ #[(30 : Nat), (30 : Nat)] (30 : Nat) #[Value.slice none (0 : Nat) (0 : Nat), Value.slice p67 k68 k69]) w66 fun v70 w71 =>
             ∃ p72 : Option Addr,
             ∃ k73 : Nat,
             ∃ k74 : Nat,
             (
              v70 = Value.slice p72 k73 k74) ∧
             (
              Wr w71 { block := b1, off := (14 : Nat) }) ∧
             LetW (w71.setCell { block := b1, off := (14 : Nat) } (Value.slice p72 k73 k74)) fun w75 =>
             ∃ n76 : Int,
             (
              w75.cell? { block := b1, off := (47 : Nat) } = some (Value.int IntKind.i64 n76)) ∧
             Br (n76 == (1 : Int))
              (
               Ca Try.prog (73 : Nat) #[Value.pointer (some { block := b1, off := (0 : Nat) }), Value.int IntKind.i64 n43] w75 fun e77 w78 =>
               ∃ p79 : Option Addr,
               ∃ k80 : Nat,
               ∃ k81 : Nat,
               (
                e77 = Ending.returned (Value.slice p79 k80 k81)) ∧
               R (Ending.returned (Value.slice p79 k80 k81)) w78)
              (
               R (Ending.returned (Value.slice none (0 : Nat) (0 : Nat))) w75))
            (
             ∃ n82 : Int,
             (
              w57.cell? { block := b34, off := (0 : Nat) } = some (Value.int IntKind.i64 n82)) ∧
             Br (n82 == (2 : Int))
              (
               Br (n49 != (0 : Int))
                (
                 ∃ n83 : Int,
                 ∃ s84 : ByteArray,
                 ∃ n85 : Int,
                 ∃ n86 : Int,
                 (
                  Row w57 { block := b34, off := (11 : Nat) } (0 : Nat) [Value.int IntKind.i64 n83, Value.string s84, Value.int IntKind.i64 n85, Value.int IntKind.i64 n86]) ∧
                 Ca Try.prog (77 : Nat) #[Value.pointer (some { block := b1, off := (0 : Nat) }), Value.agg #[Value.int IntKind.i64 (1 : Int), Value.int IntKind.i64 (0 : Int), Value.int IntKind.i64 n83, Value.string s84, Value.int IntKind.i64 n85, Value.int IntKind.i64 n86]] w57 fun e87 w88 =>
                 (
                  e87 = Ending.returned (Value.tuple #[])) ∧
                 R (Ending.returned (Value.slice none (0 : Nat) (0 : Nat))) w88)
                (
                 ∃ n89 : Int,
                 (
                  w57.cell? { block := b34, off := (0 : Nat) } = some (Value.int IntKind.i64 n89)) ∧
                 Br (n89 == (3 : Int))
                  (
                   Br (n49 != (0 : Int))
                    (
                     ∃ n90 : Int,
                     (
                      w57.cell? { block := b1, off := (47 : Nat) } = some (Value.int IntKind.i64 n90)) ∧
                     Br (n90 == (2 : Int))
                      (
                       ∃ n91 : Int,
                       (
                        w57.cell? { block := b34, off := (4 : Nat) } = some (Value.int IntKind.i64 n91)) ∧
                       ∃ n92 : Int,
                       (
                        w57.cell? { block := b1, off := (22 : Nat) } = some (Value.int IntKind.i64 n92)) ∧
                       Br (n91 == n92)
                        (
                         ∃ n93 : Int,
                         ∃ n94 : Int,
                         ∃ n95 : Int,
                         ∃ n96 : Int,
                         ∃ n97 : Int,
                         ∃ n98 : Int,
                         ∃ n99 : Int,
                         ∃ n100 : Int,
                         ∃ s101 : ByteArray,
                         ∃ s102 : ByteArray,
                         ∃ n103 : Int,
                         ∃ n104 : Int,
                         ∃ s105 : ByteArray,
                         ∃ n106 : Int,
                         ∃ n107 : Int,
                         ∃ n108 : Int,
                         ∃ n109 : Int,
                         ∃ n110 : Int,
                         ∃ n111 : Int,
                         ∃ n112 : Int,
                         ∃ s113 : ByteArray,
                         ∃ s114 : ByteArray,
                         ∃ n115 : Int,
                         ∃ n116 : Int,
                         ∃ p117 : Option Addr,
                         ∃ k118 : Nat,
                         ∃ k119 : Nat,
                         ∃ n120 : Int,
                         ∃ n121 : Int,
                         ∃ n122 : Int,
                         ∃ n123 : Int,
                         (
                          Row w57 { block := b34, off := (0 : Nat) } (0 : Nat) [Value.int IntKind.i64 n93, Value.int IntKind.i64 n94, Value.int IntKind.i64 n95, Value.int IntKind.i64 n96, Value.int IntKind.i64 n97, Value.int IntKind.i64 n98, Value.int IntKind.i64 n99, Value.int IntKind.i64 n100, Value.string s101, Value.string s102, Value.int IntKind.i64 n103, Value.int IntKind.i64 n104, Value.string s105, Value.int IntKind.i64 n106, Value.int IntKind.i64 n107, Value.int IntKind.i64 n108, Value.int IntKind.i64 n109, Value.int IntKind.i64 n110, Value.int IntKind.i64 n111, Value.int IntKind.i64 n112, Value.string s113, Value.string s114, Value.int IntKind.i64 n115, Value.int IntKind.i64 n116, Value.slice p117 k118 k119, Value.int IntKind.i64 n120, Value.int IntKind.i64 n121, Value.int IntKind.i64 n122, Value.int IntKind.i64 n123]) ∧
                         Ca Try.prog (78 : Nat) #[Value.pointer (some { block := b1, off := (0 : Nat) }), Value.agg #[Value.int IntKind.i64 n93, Value.int IntKind.i64 n94, Value.int IntKind.i64 n95, Value.int IntKind.i64 n96, Value.int IntKind.i64 n97, Value.int IntKind.i64 n98, Value.int IntKind.i64 n99, Value.int IntKind.i64 n100, Value.string s101, Value.string s102, Value.int IntKind.i64 n103, Value.int IntKind.i64 n104, Value.string s105, Value.int IntKind.i64 n106, Value.int IntKind.i64 n107, Value.int IntKind.i64 n108, Value.int IntKind.i64 n109, Value.int IntKind.i64 n110, Value.int IntKind.i64 n111, Value.int IntKind.i64 n112, Value.string s113, Value.string s114, Value.int IntKind.i64 n115, Value.int IntKind.i64 n116, Value.slice p117 k118 k119, Value.int IntKind.i64 n120, Value.int IntKind.i64 n121, Value.int IntKind.i64 n122, Value.int IntKind.i64 n123], Value.int IntKind.i64 n43] w57 fun e124 w125 =>
                         ∃ p126 : Option Addr,
                         ∃ k127 : Nat,
                         ∃ k128 : Nat,
                         (
                          e124 = Ending.returned (Value.slice p126 k127 k128)) ∧
                         R (Ending.returned (Value.slice p126 k127 k128)) w125)
                        (
                         R (Ending.returned (Value.slice none (0 : Nat) (0 : Nat))) w57))
                      (
                       R (Ending.returned (Value.slice none (0 : Nat) (0 : Nat))) w57))
                    (
                     R (Ending.returned (Value.slice none (0 : Nat) (0 : Nat))) w57))
                  (
                   R (Ending.returned (Value.slice none (0 : Nat) (0 : Nat))) w57)))
              (
               ∃ n129 : Int,
               (
                w57.cell? { block := b34, off := (0 : Nat) } = some (Value.int IntKind.i64 n129)) ∧
               Br (n129 == (3 : Int))
                (
                 Br (n49 != (0 : Int))
                  (
                   ∃ n130 : Int,
                   (
                    w57.cell? { block := b1, off := (47 : Nat) } = some (Value.int IntKind.i64 n130)) ∧
                   Br (n130 == (2 : Int))
                    (
                     ∃ n131 : Int,
                     (
                      w57.cell? { block := b34, off := (4 : Nat) } = some (Value.int IntKind.i64 n131)) ∧
                     ∃ n132 : Int,
                     (
                      w57.cell? { block := b1, off := (22 : Nat) } = some (Value.int IntKind.i64 n132)) ∧
                     Br (n131 == n132)
                      (
                       ∃ n133 : Int,
                       ∃ n134 : Int,
                       ∃ n135 : Int,
                       ∃ n136 : Int,
                       ∃ n137 : Int,
                       ∃ n138 : Int,
                       ∃ n139 : Int,
                       ∃ n140 : Int,
                       ∃ s141 : ByteArray,
                       ∃ s142 : ByteArray,
                       ∃ n143 : Int,
                       ∃ n144 : Int,
                       ∃ s145 : ByteArray,
                       ∃ n146 : Int,
                       ∃ n147 : Int,
                       ∃ n148 : Int,
                       ∃ n149 : Int,
                       ∃ n150 : Int,
                       ∃ n151 : Int,
                       ∃ n152 : Int,
                       ∃ s153 : ByteArray,
                       ∃ s154 : ByteArray,
                       ∃ n155 : Int,
                       ∃ n156 : Int,
                       ∃ p157 : Option Addr,
                       ∃ k158 : Nat,
                       ∃ k159 : Nat,
                       ∃ n160 : Int,
                       ∃ n161 : Int,
                       ∃ n162 : Int,
                       ∃ n163 : Int,
                       (
                        Row w57 { block := b34, off := (0 : Nat) } (0 : Nat) [Value.int IntKind.i64 n133, Value.int IntKind.i64 n134, Value.int IntKind.i64 n135, Value.int IntKind.i64 n136, Value.int IntKind.i64 n137, Value.int IntKind.i64 n138, Value.int IntKind.i64 n139, Value.int IntKind.i64 n140, Value.string s141, Value.string s142, Value.int IntKind.i64 n143, Value.int IntKind.i64 n144, Value.string s145, Value.int IntKind.i64 n146, Value.int IntKind.i64 n147, Value.int IntKind.i64 n148, Value.int IntKind.i64 n149, Value.int IntKind.i64 n150, Value.int IntKind.i64 n151, Value.int IntKind.i64 n152, Value.string s153, Value.string s154, Value.int IntKind.i64 n155, Value.int IntKind.i64 n156, Value.slice p157 k158 k159, Value.int IntKind.i64 n160, Value.int IntKind.i64 n161, Value.int IntKind.i64 n162, Value.int IntKind.i64 n163]) ∧
                       Ca Try.prog (78 : Nat) #[Value.pointer (some { block := b1, off := (0 : Nat) }), Value.agg #[Value.int IntKind.i64 n133, Value.int IntKind.i64 n134, Value.int IntKind.i64 n135, Value.int IntKind.i64 n136, Value.int IntKind.i64 n137, Value.int IntKind.i64 n138, Value.int IntKind.i64 n139, Value.int IntKind.i64 n140, Value.string s141, Value.string s142, Value.int IntKind.i64 n143, Value.int IntKind.i64 n144, Value.string s145, Value.int IntKind.i64 n146, Value.int IntKind.i64 n147, Value.int IntKind.i64 n148, Value.int IntKind.i64 n149, Value.int IntKind.i64 n150, Value.int IntKind.i64 n151, Value.int IntKind.i64 n152, Value.string s153, Value.string s154, Value.int IntKind.i64 n155, Value.int IntKind.i64 n156, Value.slice p157 k158 k159, Value.int IntKind.i64 n160, Value.int IntKind.i64 n161, Value.int IntKind.i64 n162, Value.int IntKind.i64 n163], Value.int IntKind.i64 n43] w57 fun e164 w165 =>
                       ∃ p166 : Option Addr,
                       ∃ k167 : Nat,
                       ∃ k168 : Nat,
                       (
                        e164 = Ending.returned (Value.slice p166 k167 k168)) ∧
                       R (Ending.returned (Value.slice p166 k167 k168)) w165)
                      (
                       R (Ending.returned (Value.slice none (0 : Nat) (0 : Nat))) w57))
                    (
                     R (Ending.returned (Value.slice none (0 : Nat) (0 : Nat))) w57))
                  (
                   R (Ending.returned (Value.slice none (0 : Nat) (0 : Nat))) w57))
                (
                 R (Ending.returned (Value.slice none (0 : Nat) (0 : Nat))) w57))))
          (
           ∃ n169 : Int,
           (
            w57.cell? { block := b34, off := (0 : Nat) } = some (Value.int IntKind.i64 n169)) ∧
           Br (n169 == (2 : Int))
            (
             Br (n49 != (0 : Int))
              (
               ∃ n170 : Int,
               ∃ s171 : ByteArray,
               ∃ n172 : Int,
               ∃ n173 : Int,
               (
                Row w57 { block := b34, off := (11 : Nat) } (0 : Nat) [Value.int IntKind.i64 n170, Value.string s171, Value.int IntKind.i64 n172, Value.int IntKind.i64 n173]) ∧
               Ca Try.prog (77 : Nat) #[Value.pointer (some { block := b1, off := (0 : Nat) }), Value.agg #[Value.int IntKind.i64 (1 : Int), Value.int IntKind.i64 (0 : Int), Value.int IntKind.i64 n170, Value.string s171, Value.int IntKind.i64 n172, Value.int IntKind.i64 n173]] w57 fun e174 w175 =>
               (
                e174 = Ending.returned (Value.tuple #[])) ∧
               R (Ending.returned (Value.slice none (0 : Nat) (0 : Nat))) w175)
              (
               ∃ n176 : Int,
               (
                w57.cell? { block := b34, off := (0 : Nat) } = some (Value.int IntKind.i64 n176)) ∧
               Br (n176 == (3 : Int))
                (
                 Br (n49 != (0 : Int))
                  (
                   ∃ n177 : Int,
                   (
                    w57.cell? { block := b1, off := (47 : Nat) } = some (Value.int IntKind.i64 n177)) ∧
                   Br (n177 == (2 : Int))
                    (
                     ∃ n178 : Int,
                     (
                      w57.cell? { block := b34, off := (4 : Nat) } = some (Value.int IntKind.i64 n178)) ∧
                     ∃ n179 : Int,
                     (
                      w57.cell? { block := b1, off := (22 : Nat) } = some (Value.int IntKind.i64 n179)) ∧
                     Br (n178 == n179)
                      (
                       ∃ n180 : Int,
                       ∃ n181 : Int,
                       ∃ n182 : Int,
                       ∃ n183 : Int,
                       ∃ n184 : Int,
                       ∃ n185 : Int,
                       ∃ n186 : Int,
                       ∃ n187 : Int,
                       ∃ s188 : ByteArray,
                       ∃ s189 : ByteArray,
                       ∃ n190 : Int,
                       ∃ n191 : Int,
                       ∃ s192 : ByteArray,
                       ∃ n193 : Int,
                       ∃ n194 : Int,
                       ∃ n195 : Int,
                       ∃ n196 : Int,
                       ∃ n197 : Int,
                       ∃ n198 : Int,
                       ∃ n199 : Int,
                       ∃ s200 : ByteArray,
                       ∃ s201 : ByteArray,
                       ∃ n202 : Int,
                       ∃ n203 : Int,
                       ∃ p204 : Option Addr,
                       ∃ k205 : Nat,
                       ∃ k206 : Nat,
                       ∃ n207 : Int,
                       ∃ n208 : Int,
                       ∃ n209 : Int,
                       ∃ n210 : Int,
                       (
                        Row w57 { block := b34, off := (0 : Nat) } (0 : Nat) [Value.int IntKind.i64 n180, Value.int IntKind.i64 n181, Value.int IntKind.i64 n182, Value.int IntKind.i64 n183, Value.int IntKind.i64 n184, Value.int IntKind.i64 n185, Value.int IntKind.i64 n186, Value.int IntKind.i64 n187, Value.string s188, Value.string s189, Value.int IntKind.i64 n190, Value.int IntKind.i64 n191, Value.string s192, Value.int IntKind.i64 n193, Value.int IntKind.i64 n194, Value.int IntKind.i64 n195, Value.int IntKind.i64 n196, Value.int IntKind.i64 n197, Value.int IntKind.i64 n198, Value.int IntKind.i64 n199, Value.string s200, Value.string s201, Value.int IntKind.i64 n202, Value.int IntKind.i64 n203, Value.slice p204 k205 k206, Value.int IntKind.i64 n207, Value.int IntKind.i64 n208, Value.int IntKind.i64 n209, Value.int IntKind.i64 n210]) ∧
                       Ca Try.prog (78 : Nat) #[Value.pointer (some { block := b1, off := (0 : Nat) }), Value.agg #[Value.int IntKind.i64 n180, Value.int IntKind.i64 n181, Value.int IntKind.i64 n182, Value.int IntKind.i64 n183, Value.int IntKind.i64 n184, Value.int IntKind.i64 n185, Value.int IntKind.i64 n186, Value.int IntKind.i64 n187, Value.string s188, Value.string s189, Value.int IntKind.i64 n190, Value.int IntKind.i64 n191, Value.string s192, Value.int IntKind.i64 n193, Value.int IntKind.i64 n194, Value.int IntKind.i64 n195, Value.int IntKind.i64 n196, Value.int IntKind.i64 n197, Value.int IntKind.i64 n198, Value.int IntKind.i64 n199, Value.string s200, Value.string s201, Value.int IntKind.i64 n202, Value.int IntKind.i64 n203, Value.slice p204 k205 k206, Value.int IntKind.i64 n207, Value.int IntKind.i64 n208, Value.int IntKind.i64 n209, Value.int IntKind.i64 n210], Value.int IntKind.i64 n43] w57 fun e211 w212 =>
                       ∃ p213 : Option Addr,
                       ∃ k214 : Nat,
                       ∃ k215 : Nat,
                       (
                        e211 = Ending.returned (Value.slice p213 k214 k215)) ∧
                       R (Ending.returned (Value.slice p213 k214 k215)) w212)
                      (
                       R (Ending.returned (Value.slice none (0 : Nat) (0 : Nat))) w57))
                    (
                     R (Ending.returned (Value.slice none (0 : Nat) (0 : Nat))) w57))
                  (
                   R (Ending.returned (Value.slice none (0 : Nat) (0 : Nat))) w57))
                (
                 R (Ending.returned (Value.slice none (0 : Nat) (0 : Nat))) w57)))
            (
             ∃ n216 : Int,
             (
              w57.cell? { block := b34, off := (0 : Nat) } = some (Value.int IntKind.i64 n216)) ∧
             Br (n216 == (3 : Int))
              (
               Br (n49 != (0 : Int))
                (
                 ∃ n217 : Int,
                 (
                  w57.cell? { block := b1, off := (47 : Nat) } = some (Value.int IntKind.i64 n217)) ∧
                 Br (n217 == (2 : Int))
                  (
                   ∃ n218 : Int,
                   (
                    w57.cell? { block := b34, off := (4 : Nat) } = some (Value.int IntKind.i64 n218)) ∧
                   ∃ n219 : Int,
                   (
                    w57.cell? { block := b1, off := (22 : Nat) } = some (Value.int IntKind.i64 n219)) ∧
                   Br (n218 == n219)
                    (
                     ∃ n220 : Int,
                     ∃ n221 : Int,
                     ∃ n222 : Int,
                     ∃ n223 : Int,
                     ∃ n224 : Int,
                     ∃ n225 : Int,
                     ∃ n226 : Int,
                     ∃ n227 : Int,
                     ∃ s228 : ByteArray,
                     ∃ s229 : ByteArray,
                     ∃ n230 : Int,
                     ∃ n231 : Int,
                     ∃ s232 : ByteArray,
                     ∃ n233 : Int,
                     ∃ n234 : Int,
                     ∃ n235 : Int,
                     ∃ n236 : Int,
                     ∃ n237 : Int,
                     ∃ n238 : Int,
                     ∃ n239 : Int,
                     ∃ s240 : ByteArray,
                     ∃ s241 : ByteArray,
                     ∃ n242 : Int,
                     ∃ n243 : Int,
                     ∃ p244 : Option Addr,
                     ∃ k245 : Nat,
                     ∃ k246 : Nat,
                     ∃ n247 : Int,
                     ∃ n248 : Int,
                     ∃ n249 : Int,
                     ∃ n250 : Int,
                     (
                      Row w57 { block := b34, off := (0 : Nat) } (0 : Nat) [Value.int IntKind.i64 n220, Value.int IntKind.i64 n221, Value.int IntKind.i64 n222, Value.int IntKind.i64 n223, Value.int IntKind.i64 n224, Value.int IntKind.i64 n225, Value.int IntKind.i64 n226, Value.int IntKind.i64 n227, Value.string s228, Value.string s229, Value.int IntKind.i64 n230, Value.int IntKind.i64 n231, Value.string s232, Value.int IntKind.i64 n233, Value.int IntKind.i64 n234, Value.int IntKind.i64 n235, Value.int IntKind.i64 n236, Value.int IntKind.i64 n237, Value.int IntKind.i64 n238, Value.int IntKind.i64 n239, Value.string s240, Value.string s241, Value.int IntKind.i64 n242, Value.int IntKind.i64 n243, Value.slice p244 k245 k246, Value.int IntKind.i64 n247, Value.int IntKind.i64 n248, Value.int IntKind.i64 n249, Value.int IntKind.i64 n250]) ∧
                     Ca Try.prog (78 : Nat) #[Value.pointer (some { block := b1, off := (0 : Nat) }), Value.agg #[Value.int IntKind.i64 n220, Value.int IntKind.i64 n221, Value.int IntKind.i64 n222, Value.int IntKind.i64 n223, Value.int IntKind.i64 n224, Value.int IntKind.i64 n225, Value.int IntKind.i64 n226, Value.int IntKind.i64 n227, Value.string s228, Value.string s229, Value.int IntKind.i64 n230, Value.int IntKind.i64 n231, Value.string s232, Value.int IntKind.i64 n233, Value.int IntKind.i64 n234, Value.int IntKind.i64 n235, Value.int IntKind.i64 n236, Value.int IntKind.i64 n237, Value.int IntKind.i64 n238, Value.int IntKind.i64 n239, Value.string s240, Value.string s241, Value.int IntKind.i64 n242, Value.int IntKind.i64 n243, Value.slice p244 k245 k246, Value.int IntKind.i64 n247, Value.int IntKind.i64 n248, Value.int IntKind.i64 n249, Value.int IntKind.i64 n250], Value.int IntKind.i64 n43] w57 fun e251 w252 =>
                     ∃ p253 : Option Addr,
                     ∃ k254 : Nat,
                     ∃ k255 : Nat,
                     (
                      e251 = Ending.returned (Value.slice p253 k254 k255)) ∧
                     R (Ending.returned (Value.slice p253 k254 k255)) w252)
                    (
                     R (Ending.returned (Value.slice none (0 : Nat) (0 : Nat))) w57))
                  (
                   R (Ending.returned (Value.slice none (0 : Nat) (0 : Nat))) w57))
                (
                 R (Ending.returned (Value.slice none (0 : Nat) (0 : Nat))) w57))
              (
               R (Ending.returned (Value.slice none (0 : Nat) (0 : Nat))) w57))))
        (
         ∃ n256 : Int,
         (
          w44.cell? { block := b34, off := (0 : Nat) } = some (Value.int IntKind.i64 n256)) ∧
         Br (n256 == (2 : Int))
          (
           Br (n49 != (0 : Int))
            (
             ∃ n257 : Int,
             ∃ s258 : ByteArray,
             ∃ n259 : Int,
             ∃ n260 : Int,
             (
              Row w44 { block := b34, off := (11 : Nat) } (0 : Nat) [Value.int IntKind.i64 n257, Value.string s258, Value.int IntKind.i64 n259, Value.int IntKind.i64 n260]) ∧
             Ca Try.prog (77 : Nat) #[Value.pointer (some { block := b1, off := (0 : Nat) }), Value.agg #[Value.int IntKind.i64 (1 : Int), Value.int IntKind.i64 (0 : Int), Value.int IntKind.i64 n257, Value.string s258, Value.int IntKind.i64 n259, Value.int IntKind.i64 n260]] w44 fun e261 w262 =>
             (
              e261 = Ending.returned (Value.tuple #[])) ∧
             R (Ending.returned (Value.slice none (0 : Nat) (0 : Nat))) w262)
            (
             ∃ n263 : Int,
             (
              w44.cell? { block := b34, off := (0 : Nat) } = some (Value.int IntKind.i64 n263)) ∧
             Br (n263 == (3 : Int))
              (
               Br (n49 != (0 : Int))
                (
                 ∃ n264 : Int,
                 (
                  w44.cell? { block := b1, off := (47 : Nat) } = some (Value.int IntKind.i64 n264)) ∧
                 Br (n264 == (2 : Int))
                  (
                   ∃ n265 : Int,
                   (
                    w44.cell? { block := b34, off := (4 : Nat) } = some (Value.int IntKind.i64 n265)) ∧
                   ∃ n266 : Int,
                   (
                    w44.cell? { block := b1, off := (22 : Nat) } = some (Value.int IntKind.i64 n266)) ∧
                   Br (n265 == n266)
                    (
                     ∃ n267 : Int,
                     ∃ n268 : Int,
                     ∃ n269 : Int,
                     ∃ n270 : Int,
                     ∃ n271 : Int,
                     ∃ n272 : Int,
                     ∃ n273 : Int,
                     ∃ n274 : Int,
                     ∃ s275 : ByteArray,
                     ∃ s276 : ByteArray,
                     ∃ n277 : Int,
                     ∃ n278 : Int,
                     ∃ s279 : ByteArray,
                     ∃ n280 : Int,
                     ∃ n281 : Int,
                     ∃ n282 : Int,
                     ∃ n283 : Int,
                     ∃ n284 : Int,
                     ∃ n285 : Int,
                     ∃ n286 : Int,
                     ∃ s287 : ByteArray,
                     ∃ s288 : ByteArray,
                     ∃ n289 : Int,
                     ∃ n290 : Int,
                     ∃ p291 : Option Addr,
                     ∃ k292 : Nat,
                     ∃ k293 : Nat,
                     ∃ n294 : Int,
                     ∃ n295 : Int,
                     ∃ n296 : Int,
                     ∃ n297 : Int,
                     (
                      Row w44 { block := b34, off := (0 : Nat) } (0 : Nat) [Value.int IntKind.i64 n267, Value.int IntKind.i64 n268, Value.int IntKind.i64 n269, Value.int IntKind.i64 n270, Value.int IntKind.i64 n271, Value.int IntKind.i64 n272, Value.int IntKind.i64 n273, Value.int IntKind.i64 n274, Value.string s275, Value.string s276, Value.int IntKind.i64 n277, Value.int IntKind.i64 n278, Value.string s279, Value.int IntKind.i64 n280, Value.int IntKind.i64 n281, Value.int IntKind.i64 n282, Value.int IntKind.i64 n283, Value.int IntKind.i64 n284, Value.int IntKind.i64 n285, Value.int IntKind.i64 n286, Value.string s287, Value.string s288, Value.int IntKind.i64 n289, Value.int IntKind.i64 n290, Value.slice p291 k292 k293, Value.int IntKind.i64 n294, Value.int IntKind.i64 n295, Value.int IntKind.i64 n296, Value.int IntKind.i64 n297]) ∧
                     Ca Try.prog (78 : Nat) #[Value.pointer (some { block := b1, off := (0 : Nat) }), Value.agg #[Value.int IntKind.i64 n267, Value.int IntKind.i64 n268, Value.int IntKind.i64 n269, Value.int IntKind.i64 n270, Value.int IntKind.i64 n271, Value.int IntKind.i64 n272, Value.int IntKind.i64 n273, Value.int IntKind.i64 n274, Value.string s275, Value.string s276, Value.int IntKind.i64 n277, Value.int IntKind.i64 n278, Value.string s279, Value.int IntKind.i64 n280, Value.int IntKind.i64 n281, Value.int IntKind.i64 n282, Value.int IntKind.i64 n283, Value.int IntKind.i64 n284, Value.int IntKind.i64 n285, Value.int IntKind.i64 n286, Value.string s287, Value.string s288, Value.int IntKind.i64 n289, Value.int IntKind.i64 n290, Value.slice p291 k292 k293, Value.int IntKind.i64 n294, Value.int IntKind.i64 n295, Value.int IntKind.i64 n296, Value.int IntKind.i64 n297], Value.int IntKind.i64 n43] w44 fun e298 w299 =>
                     ∃ p300 : Option Addr,
                     ∃ k301 : Nat,
                     ∃ k302 : Nat,
                     (
                      e298 = Ending.returned (Value.slice p300 k301 k302)) ∧
                     R (Ending.returned (Value.slice p300 k301 k302)) w299)
                    (
                     R (Ending.returned (Value.slice none (0 : Nat) (0 : Nat))) w44))
                  (
                   R (Ending.returned (Value.slice none (0 : Nat) (0 : Nat))) w44))
                (
                 R (Ending.returned (Value.slice none (0 : Nat) (0 : Nat))) w44))
              (
               R (Ending.returned (Value.slice none (0 : Nat) (0 : Nat))) w44)))
          (
           ∃ n303 : Int,
           (
            w44.cell? { block := b34, off := (0 : Nat) } = some (Value.int IntKind.i64 n303)) ∧
           Br (n303 == (3 : Int))
            (
             Br (n49 != (0 : Int))
              (
               ∃ n304 : Int,
               (
                w44.cell? { block := b1, off := (47 : Nat) } = some (Value.int IntKind.i64 n304)) ∧
               Br (n304 == (2 : Int))
                (
                 ∃ n305 : Int,
                 (
                  w44.cell? { block := b34, off := (4 : Nat) } = some (Value.int IntKind.i64 n305)) ∧
                 ∃ n306 : Int,
                 (
                  w44.cell? { block := b1, off := (22 : Nat) } = some (Value.int IntKind.i64 n306)) ∧
                 Br (n305 == n306)
                  (
                   ∃ n307 : Int,
                   ∃ n308 : Int,
                   ∃ n309 : Int,
                   ∃ n310 : Int,
                   ∃ n311 : Int,
                   ∃ n312 : Int,
                   ∃ n313 : Int,
                   ∃ n314 : Int,
                   ∃ s315 : ByteArray,
                   ∃ s316 : ByteArray,
                   ∃ n317 : Int,
                   ∃ n318 : Int,
                   ∃ s319 : ByteArray,
                   ∃ n320 : Int,
                   ∃ n321 : Int,
                   ∃ n322 : Int,
                   ∃ n323 : Int,
                   ∃ n324 : Int,
                   ∃ n325 : Int,
                   ∃ n326 : Int,
                   ∃ s327 : ByteArray,
                   ∃ s328 : ByteArray,
                   ∃ n329 : Int,
                   ∃ n330 : Int,
                   ∃ p331 : Option Addr,
                   ∃ k332 : Nat,
                   ∃ k333 : Nat,
                   ∃ n334 : Int,
                   ∃ n335 : Int,
                   ∃ n336 : Int,
                   ∃ n337 : Int,
                   (
                    Row w44 { block := b34, off := (0 : Nat) } (0 : Nat) [Value.int IntKind.i64 n307, Value.int IntKind.i64 n308, Value.int IntKind.i64 n309, Value.int IntKind.i64 n310, Value.int IntKind.i64 n311, Value.int IntKind.i64 n312, Value.int IntKind.i64 n313, Value.int IntKind.i64 n314, Value.string s315, Value.string s316, Value.int IntKind.i64 n317, Value.int IntKind.i64 n318, Value.string s319, Value.int IntKind.i64 n320, Value.int IntKind.i64 n321, Value.int IntKind.i64 n322, Value.int IntKind.i64 n323, Value.int IntKind.i64 n324, Value.int IntKind.i64 n325, Value.int IntKind.i64 n326, Value.string s327, Value.string s328, Value.int IntKind.i64 n329, Value.int IntKind.i64 n330, Value.slice p331 k332 k333, Value.int IntKind.i64 n334, Value.int IntKind.i64 n335, Value.int IntKind.i64 n336, Value.int IntKind.i64 n337]) ∧
                   Ca Try.prog (78 : Nat) #[Value.pointer (some { block := b1, off := (0 : Nat) }), Value.agg #[Value.int IntKind.i64 n307, Value.int IntKind.i64 n308, Value.int IntKind.i64 n309, Value.int IntKind.i64 n310, Value.int IntKind.i64 n311, Value.int IntKind.i64 n312, Value.int IntKind.i64 n313, Value.int IntKind.i64 n314, Value.string s315, Value.string s316, Value.int IntKind.i64 n317, Value.int IntKind.i64 n318, Value.string s319, Value.int IntKind.i64 n320, Value.int IntKind.i64 n321, Value.int IntKind.i64 n322, Value.int IntKind.i64 n323, Value.int IntKind.i64 n324, Value.int IntKind.i64 n325, Value.int IntKind.i64 n326, Value.string s327, Value.string s328, Value.int IntKind.i64 n329, Value.int IntKind.i64 n330, Value.slice p331 k332 k333, Value.int IntKind.i64 n334, Value.int IntKind.i64 n335, Value.int IntKind.i64 n336, Value.int IntKind.i64 n337], Value.int IntKind.i64 n43] w44 fun e338 w339 =>
                   ∃ p340 : Option Addr,
                   ∃ k341 : Nat,
                   ∃ k342 : Nat,
                   (
                    e338 = Ending.returned (Value.slice p340 k341 k342)) ∧
                   R (Ending.returned (Value.slice p340 k341 k342)) w339)
                  (
                   R (Ending.returned (Value.slice none (0 : Nat) (0 : Nat))) w44))
                (
                 R (Ending.returned (Value.slice none (0 : Nat) (0 : Nat))) w44))
              (
               R (Ending.returned (Value.slice none (0 : Nat) (0 : Nat))) w44))
            (
             R (Ending.returned (Value.slice none (0 : Nat) (0 : Nat))) w44))))
      (
       ∃ n343 : Int,
       (
        w44.cell? { block := b34, off := (0 : Nat) } = some (Value.int IntKind.i64 n343)) ∧
       Br (n343 == (8 : Int))
        (
         ∃ n344 : Int,
         ∃ p345 : Option Addr,
         ∃ k346 : Nat,
         ∃ k347 : Nat,
         ∃ n348 : Int,
         (
          Row w44 { block := b34, off := (23 : Nat) } (0 : Nat) [Value.int IntKind.i64 n344, Value.slice p345 k346 k347, Value.int IntKind.i64 n348]) ∧
         Ca Try.prog (21 : Nat) #[Value.agg #[Value.int IntKind.i64 n344, Value.slice p345 k346 k347, Value.int IntKind.i64 n348]] w44 fun e349 w350 =>
         ∃ n351 : Int,
         (
          e349 = Ending.returned (Value.int IntKind.i64 n351)) ∧
         Br (n351 == (0 : Int))
          (
           ∃ n352 : Int,
           (
            w350.cell? { block := b34, off := (23 : Nat) } = some (Value.int IntKind.i64 n352)) ∧
           ∃ n353 : Int,
           (
            w350.cell? { block := b1, off := (13 : Nat) } = some (Value.int IntKind.i64 n353)) ∧
           Br (decide (n352 ≥ n353))
            (
             ∃ n354 : Int,
             ∃ p355 : Option Addr,
             ∃ k356 : Nat,
             ∃ k357 : Nat,
             ∃ n358 : Int,
             (
              Row w350 { block := b34, off := (23 : Nat) } (0 : Nat) [Value.int IntKind.i64 n354, Value.slice p355 k356 k357, Value.int IntKind.i64 n358]) ∧
             (
              WrRow w350 { block := b1, off := (13 : Nat) } (0 : Nat) [Value.int IntKind.i64 n354, Value.slice p355 k356 k357, Value.int IntKind.i64 n358]) ∧
             LetW (setRow w350 { block := b1, off := (13 : Nat) } (0 : Nat) [Value.int IntKind.i64 n354, Value.slice p355 k356 k357, Value.int IntKind.i64 n358]) fun w359 =>
             ∃ p360 : Option Addr,
             ∃ k361 : Nat,
             ∃ k362 : Nat,
             (
              w359.cell? { block := b34, off := (24 : Nat) } = some (Value.slice p360 k361 k362)) ∧
             RunsV Try.prog (Builtin.append_ #[(30 : Nat), (30 : Nat)] (30 : Nat) #[Value.slice none (0 : Nat) (0 : Nat), Value.slice p360 k361 k362]) w359 fun v363 w364 =>
             ∃ p365 : Option Addr,
             ∃ k366 : Nat,
             ∃ k367 : Nat,
             (
              v363 = Value.slice p365 k366 k367) ∧
             (
              Wr w364 { block := b1, off := (14 : Nat) }) ∧
             LetW (w364.setCell { block := b1, off := (14 : Nat) } (Value.slice p365 k366 k367)) fun w368 =>
             ∃ n369 : Int,
             (
              w368.cell? { block := b1, off := (47 : Nat) } = some (Value.int IntKind.i64 n369)) ∧
             Br (n369 == (1 : Int))
              (
               Ca Try.prog (73 : Nat) #[Value.pointer (some { block := b1, off := (0 : Nat) }), Value.int IntKind.i64 n43] w368 fun e370 w371 =>
               ∃ p372 : Option Addr,
               ∃ k373 : Nat,
               ∃ k374 : Nat,
               (
                e370 = Ending.returned (Value.slice p372 k373 k374)) ∧
               R (Ending.returned (Value.slice p372 k373 k374)) w371)
              (
               R (Ending.returned (Value.slice none (0 : Nat) (0 : Nat))) w368))
            (
             ∃ n375 : Int,
             (
              w350.cell? { block := b34, off := (0 : Nat) } = some (Value.int IntKind.i64 n375)) ∧
             Br (n375 == (2 : Int))
              (
               ∃ n376 : Int,
               (
                w350.cell? { block := b34, off := (0 : Nat) } = some (Value.int IntKind.i64 n376)) ∧
               Br (n376 == (3 : Int))
                (
                 R (Ending.returned (Value.slice none (0 : Nat) (0 : Nat))) w350)
                (
                 R (Ending.returned (Value.slice none (0 : Nat) (0 : Nat))) w350))
              (
               ∃ n377 : Int,
               (
                w350.cell? { block := b34, off := (0 : Nat) } = some (Value.int IntKind.i64 n377)) ∧
               Br (n377 == (3 : Int))
                (
                 R (Ending.returned (Value.slice none (0 : Nat) (0 : Nat))) w350)
                (
                 R (Ending.returned (Value.slice none (0 : Nat) (0 : Nat))) w350))))
          (
           ∃ n378 : Int,
           (
            w350.cell? { block := b34, off := (0 : Nat) } = some (Value.int IntKind.i64 n378)) ∧
           Br (n378 == (2 : Int))
            (
             ∃ n379 : Int,
             (
              w350.cell? { block := b34, off := (0 : Nat) } = some (Value.int IntKind.i64 n379)) ∧
             Br (n379 == (3 : Int))
              (
               R (Ending.returned (Value.slice none (0 : Nat) (0 : Nat))) w350)
              (
               R (Ending.returned (Value.slice none (0 : Nat) (0 : Nat))) w350))
            (
             ∃ n380 : Int,
             (
              w350.cell? { block := b34, off := (0 : Nat) } = some (Value.int IntKind.i64 n380)) ∧
             Br (n380 == (3 : Int))
              (
               R (Ending.returned (Value.slice none (0 : Nat) (0 : Nat))) w350)
              (
               R (Ending.returned (Value.slice none (0 : Nat) (0 : Nat))) w350))))
        (
         ∃ n381 : Int,
         (
          w44.cell? { block := b34, off := (0 : Nat) } = some (Value.int IntKind.i64 n381)) ∧
         Br (n381 == (2 : Int))
          (
           ∃ n382 : Int,
           (
            w44.cell? { block := b34, off := (0 : Nat) } = some (Value.int IntKind.i64 n382)) ∧
           Br (n382 == (3 : Int))
            (
             R (Ending.returned (Value.slice none (0 : Nat) (0 : Nat))) w44)
            (
             R (Ending.returned (Value.slice none (0 : Nat) (0 : Nat))) w44))
          (
           ∃ n383 : Int,
           (
            w44.cell? { block := b34, off := (0 : Nat) } = some (Value.int IntKind.i64 n383)) ∧
           Br (n383 == (3 : Int))
            (
             R (Ending.returned (Value.slice none (0 : Nat) (0 : Nat))) w44)
            (
             R (Ending.returned (Value.slice none (0 : Nat) (0 : Nat))) w44)))))
    (
     ∃ n384 : Int,
     (
      w44.cell? { block := b34, off := (0 : Nat) } = some (Value.int IntKind.i64 n384)) ∧
     Br (n384 == (8 : Int))
      (
       ∃ n385 : Int,
       ∃ p386 : Option Addr,
       ∃ k387 : Nat,
       ∃ k388 : Nat,
       ∃ n389 : Int,
       (
        Row w44 { block := b34, off := (23 : Nat) } (0 : Nat) [Value.int IntKind.i64 n385, Value.slice p386 k387 k388, Value.int IntKind.i64 n389]) ∧
       Ca Try.prog (21 : Nat) #[Value.agg #[Value.int IntKind.i64 n385, Value.slice p386 k387 k388, Value.int IntKind.i64 n389]] w44 fun e390 w391 =>
       ∃ n392 : Int,
       (
        e390 = Ending.returned (Value.int IntKind.i64 n392)) ∧
       Br (n392 == (0 : Int))
        (
         ∃ n393 : Int,
         (
          w391.cell? { block := b34, off := (23 : Nat) } = some (Value.int IntKind.i64 n393)) ∧
         ∃ n394 : Int,
         (
          w391.cell? { block := b1, off := (13 : Nat) } = some (Value.int IntKind.i64 n394)) ∧
         Br (decide (n393 ≥ n394))
          (
           ∃ n395 : Int,
           ∃ p396 : Option Addr,
           ∃ k397 : Nat,
           ∃ k398 : Nat,
           ∃ n399 : Int,
           (
            Row w391 { block := b34, off := (23 : Nat) } (0 : Nat) [Value.int IntKind.i64 n395, Value.slice p396 k397 k398, Value.int IntKind.i64 n399]) ∧
           (
            WrRow w391 { block := b1, off := (13 : Nat) } (0 : Nat) [Value.int IntKind.i64 n395, Value.slice p396 k397 k398, Value.int IntKind.i64 n399]) ∧
           LetW (setRow w391 { block := b1, off := (13 : Nat) } (0 : Nat) [Value.int IntKind.i64 n395, Value.slice p396 k397 k398, Value.int IntKind.i64 n399]) fun w400 =>
           ∃ p401 : Option Addr,
           ∃ k402 : Nat,
           ∃ k403 : Nat,
           (
            w400.cell? { block := b34, off := (24 : Nat) } = some (Value.slice p401 k402 k403)) ∧
           RunsV Try.prog (Builtin.append_ #[(30 : Nat), (30 : Nat)] (30 : Nat) #[Value.slice none (0 : Nat) (0 : Nat), Value.slice p401 k402 k403]) w400 fun v404 w405 =>
           ∃ p406 : Option Addr,
           ∃ k407 : Nat,
           ∃ k408 : Nat,
           (
            v404 = Value.slice p406 k407 k408) ∧
           (
            Wr w405 { block := b1, off := (14 : Nat) }) ∧
           LetW (w405.setCell { block := b1, off := (14 : Nat) } (Value.slice p406 k407 k408)) fun w409 =>
           ∃ n410 : Int,
           (
            w409.cell? { block := b1, off := (47 : Nat) } = some (Value.int IntKind.i64 n410)) ∧
           Br (n410 == (1 : Int))
            (
             Ca Try.prog (73 : Nat) #[Value.pointer (some { block := b1, off := (0 : Nat) }), Value.int IntKind.i64 n43] w409 fun e411 w412 =>
             ∃ p413 : Option Addr,
             ∃ k414 : Nat,
             ∃ k415 : Nat,
             (
              e411 = Ending.returned (Value.slice p413 k414 k415)) ∧
             R (Ending.returned (Value.slice p413 k414 k415)) w412)
            (
             R (Ending.returned (Value.slice none (0 : Nat) (0 : Nat))) w409))
          (
           ∃ n416 : Int,
           (
            w391.cell? { block := b34, off := (0 : Nat) } = some (Value.int IntKind.i64 n416)) ∧
           Br (n416 == (2 : Int))
            (
             ∃ n417 : Int,
             (
              w391.cell? { block := b34, off := (0 : Nat) } = some (Value.int IntKind.i64 n417)) ∧
             Br (n417 == (3 : Int))
              (
               R (Ending.returned (Value.slice none (0 : Nat) (0 : Nat))) w391)
              (
               R (Ending.returned (Value.slice none (0 : Nat) (0 : Nat))) w391))
            (
             ∃ n418 : Int,
             (
              w391.cell? { block := b34, off := (0 : Nat) } = some (Value.int IntKind.i64 n418)) ∧
             Br (n418 == (3 : Int))
              (
               R (Ending.returned (Value.slice none (0 : Nat) (0 : Nat))) w391)
              (
               R (Ending.returned (Value.slice none (0 : Nat) (0 : Nat))) w391))))
        (
         ∃ n419 : Int,
         (
          w391.cell? { block := b34, off := (0 : Nat) } = some (Value.int IntKind.i64 n419)) ∧
         Br (n419 == (2 : Int))
          (
           ∃ n420 : Int,
           (
            w391.cell? { block := b34, off := (0 : Nat) } = some (Value.int IntKind.i64 n420)) ∧
           Br (n420 == (3 : Int))
            (
             R (Ending.returned (Value.slice none (0 : Nat) (0 : Nat))) w391)
            (
             R (Ending.returned (Value.slice none (0 : Nat) (0 : Nat))) w391))
          (
           ∃ n421 : Int,
           (
            w391.cell? { block := b34, off := (0 : Nat) } = some (Value.int IntKind.i64 n421)) ∧
           Br (n421 == (3 : Int))
            (
             R (Ending.returned (Value.slice none (0 : Nat) (0 : Nat))) w391)
            (
             R (Ending.returned (Value.slice none (0 : Nat) (0 : Nat))) w391))))
      (
       ∃ n422 : Int,
       (
        w44.cell? { block := b34, off := (0 : Nat) } = some (Value.int IntKind.i64 n422)) ∧
       Br (n422 == (2 : Int))
        (
         ∃ n423 : Int,
         (
          w44.cell? { block := b34, off := (0 : Nat) } = some (Value.int IntKind.i64 n423)) ∧
         Br (n423 == (3 : Int))
          (
           R (Ending.returned (Value.slice none (0 : Nat) (0 : Nat))) w44)
          (
           R (Ending.returned (Value.slice none (0 : Nat) (0 : Nat))) w44))
        (
         ∃ n424 : Int,
         (
          w44.cell? { block := b34, off := (0 : Nat) } = some (Value.int IntKind.i64 n424)) ∧
         Br (n424 == (3 : Int))
          (
           R (Ending.returned (Value.slice none (0 : Nat) (0 : Nat))) w44)
          (
           R (Ending.returned (Value.slice none (0 : Nat) (0 : Nat))) w44)))))
theorem ktake_ok (b1 : Nat) (n2 : Int) (n3 : Int) (n4 : Int) (n5 : Int) (n6 : Int) (n7 : Int) (n8 : Int) (n9 : Int) (s10 : ByteArray) (s11 : ByteArray) (n12 : Int) (n13 : Int) (s14 : ByteArray) (n15 : Int) (n16 : Int) (n17 : Int) (n18 : Int) (n19 : Int) (n20 : Int) (n21 : Int) (s22 : ByteArray) (s23 : ByteArray) (n24 : Int) (n25 : Int) (p26 : Option Addr) (k27 : Nat) (k28 : Nat) (n29 : Int) (n30 : Int) (n31 : Int) (n32 : Int) (n33 : Int) (w : World) (R : Ending → World → Prop) (h : ktake b1 n2 n3 n4 n5 n6 n7 n8 n9 s10 s11 n12 n13 s14 n15 n16 n17 n18 n19 n20 n21 s22 s23 n24 n25 p26 k27 k28 n29 n30 n31 n32 n33 w R) : Ca Try.prog 40 #[Value.pointer (some { block := b1, off := (0 : Nat) }), Value.agg #[Value.int IntKind.i64 n2, Value.int IntKind.i64 n3, Value.int IntKind.i64 n4, Value.int IntKind.i64 n5, Value.int IntKind.i64 n6, Value.int IntKind.i64 n7, Value.int IntKind.i64 n8, Value.int IntKind.i64 n9, Value.string s10, Value.string s11, Value.int IntKind.i64 n12, Value.int IntKind.i64 n13, Value.string s14, Value.int IntKind.i64 n15, Value.int IntKind.i64 n16, Value.int IntKind.i64 n17, Value.int IntKind.i64 n18, Value.int IntKind.i64 n19, Value.int IntKind.i64 n20, Value.int IntKind.i64 n21, Value.string s22, Value.string s23, Value.int IntKind.i64 n24, Value.int IntKind.i64 n25, Value.slice p26 k27 k28, Value.int IntKind.i64 n29, Value.int IntKind.i64 n30, Value.int IntKind.i64 n31, Value.int IntKind.i64 n32], Value.int IntKind.i64 n33] w R :=
  Ca.of_fvc (c := bodyOf Try.f40) (by kernel_rfl) Try.func40 (by kernel_rfl) [4] (Eq.mp (by kernel_rfl) h)

end Go.Proofs.Ytljipmhkpnigkaa
