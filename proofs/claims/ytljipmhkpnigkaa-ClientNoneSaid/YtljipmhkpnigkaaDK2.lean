/- The verification conditions of this seat's functions, printed by a program; the kernel holds each against the loaded code. -/
import Derived.Test.YtljipmhkpnigkaaProg
import Derived.KernelRfl
import Derived.Test.YtljipmhkpnigkaaV5
set_option maxRecDepth 100000
namespace Go.Proofs.Ytljipmhkpnigkaa
open Go Go.Vc Go.Proofs
def lawKNone (n1 : Int) (n2 : Int) (n3 : Int) (p4 : Option Addr) (k5 : Nat) (k6 : Nat) (n7 : Int) (n8 : Int) (n9 : Int) (n10 : Int) (n11 : Int) (n12 : Int) (n13 : Int) (n14 : Int) (n15 : Int) (n16 : Int) (n17 : Int) (n18 : Int) (n19 : Int) (s20 : ByteArray) (s21 : ByteArray) (n22 : Int) (n23 : Int) (n24 : Int) (n25 : Int) (n26 : Int) (n27 : Int) (n28 : Int) (n29 : Int) (n30 : Int) (s31 : ByteArray) (s32 : ByteArray) (n33 : Int) (n34 : Int) (s35 : ByteArray) (n36 : Int) (n37 : Int) (n38 : Int) (n39 : Int) (n40 : Int) (n41 : Int) (n42 : Int) (s43 : ByteArray) (s44 : ByteArray) (n45 : Int) (n46 : Int) (p47 : Option Addr) (k48 : Nat) (k49 : Nat) (n50 : Int) (n51 : Int) (n52 : Int) (n53 : Int) (n54 : Int) (n55 : Int) (n56 : Int) (w : World) (R : Ending → World → Prop) : Prop :=
 LetA (Obj.cells #[Value.int IntKind.i64 n1, Value.int IntKind.i64 n2, Value.int IntKind.i64 n3, Value.slice p4 k5 k6, Value.int IntKind.i64 n7, Value.int IntKind.i64 n8, Value.int IntKind.i64 n9, Value.int IntKind.i64 n10, Value.int IntKind.i64 n11, Value.int IntKind.i64 n12, Value.int IntKind.i64 n13, Value.int IntKind.i64 n14] (24 : Nat)) w fun b57 w58 =>
 LetA (Obj.cells #[Value.int IntKind.u8 n16, Value.int IntKind.u8 n17, Value.int IntKind.u8 n18, Value.int IntKind.i64 n19, Value.string s20, Value.string s21, Value.int IntKind.i64 n22, Value.int IntKind.i64 n23, Value.int IntKind.i64 n24, Value.int IntKind.i64 n25, Value.int IntKind.i64 n26, Value.int IntKind.i64 n27, Value.int IntKind.i64 n28, Value.int IntKind.i64 n29, Value.int IntKind.i64 n30, Value.string s31, Value.string s32, Value.int IntKind.i64 n33, Value.int IntKind.i64 n34, Value.string s35, Value.int IntKind.i64 n36, Value.int IntKind.i64 n37, Value.int IntKind.i64 n38, Value.int IntKind.i64 n39, Value.int IntKind.i64 n40, Value.int IntKind.i64 n41, Value.int IntKind.i64 n42, Value.string s43, Value.string s44, Value.int IntKind.i64 n45, Value.int IntKind.i64 n46, Value.slice p47 k48 k49, Value.int IntKind.i64 n50, Value.int IntKind.i64 n51, Value.int IntKind.i64 n52, Value.int IntKind.i64 n53, Value.int IntKind.i64 n54, Value.int IntKind.i64 n55, Value.int IntKind.i64 n56] (74 : Nat)) w58 fun b59 w60 =>
 ∃ p61 : Option Addr,
 ∃ k62 : Nat,
 ∃ k63 : Nat,
 (
  w60.cell? { block := b57, off := (3 : Nat) } = some (Value.slice p61 k62 k63)) ∧
 Br (decide ((↑k62 : Int) > (20 : Int)))
  (
   Ca Try.prog (37 : Nat) #[] w60 fun e64 w65 =>
   ∃ b66 : Bool,
   (
    e64 = Ending.returned (Value.bool b66)) ∧
   R (Ending.returned (Value.bool b66)) w65)
  (
   ∃ n67 : Int,
   ∃ n68 : Int,
   ∃ n69 : Int,
   ∃ n70 : Int,
   ∃ s71 : ByteArray,
   ∃ s72 : ByteArray,
   ∃ n73 : Int,
   ∃ n74 : Int,
   ∃ n75 : Int,
   ∃ n76 : Int,
   ∃ n77 : Int,
   ∃ n78 : Int,
   ∃ n79 : Int,
   ∃ n80 : Int,
   ∃ n81 : Int,
   ∃ s82 : ByteArray,
   ∃ s83 : ByteArray,
   ∃ n84 : Int,
   ∃ n85 : Int,
   ∃ s86 : ByteArray,
   ∃ n87 : Int,
   ∃ n88 : Int,
   ∃ n89 : Int,
   ∃ n90 : Int,
   ∃ n91 : Int,
   ∃ n92 : Int,
   ∃ n93 : Int,
   ∃ s94 : ByteArray,
   ∃ s95 : ByteArray,
   ∃ n96 : Int,
   ∃ n97 : Int,
   ∃ p98 : Option Addr,
   ∃ k99 : Nat,
   ∃ k100 : Nat,
   ∃ n101 : Int,
   ∃ n102 : Int,
   ∃ n103 : Int,
   ∃ n104 : Int,
   ∃ n105 : Int,
   ∃ n106 : Int,
   ∃ n107 : Int,
   (
    Row w60 { block := b59, off := (0 : Nat) } (0 : Nat) [Value.int IntKind.u8 n67, Value.int IntKind.u8 n68, Value.int IntKind.u8 n69, Value.int IntKind.i64 n70, Value.string s71, Value.string s72, Value.int IntKind.i64 n73, Value.int IntKind.i64 n74, Value.int IntKind.i64 n75, Value.int IntKind.i64 n76, Value.int IntKind.i64 n77, Value.int IntKind.i64 n78, Value.int IntKind.i64 n79, Value.int IntKind.i64 n80, Value.int IntKind.i64 n81, Value.string s82, Value.string s83, Value.int IntKind.i64 n84, Value.int IntKind.i64 n85, Value.string s86, Value.int IntKind.i64 n87, Value.int IntKind.i64 n88, Value.int IntKind.i64 n89, Value.int IntKind.i64 n90, Value.int IntKind.i64 n91, Value.int IntKind.i64 n92, Value.int IntKind.i64 n93, Value.string s94, Value.string s95, Value.int IntKind.i64 n96, Value.int IntKind.i64 n97, Value.slice p98 k99 k100, Value.int IntKind.i64 n101, Value.int IntKind.i64 n102, Value.int IntKind.i64 n103, Value.int IntKind.i64 n104, Value.int IntKind.i64 n105, Value.int IntKind.i64 n106, Value.int IntKind.i64 n107]) ∧
   LetA (Obj.cells #[Value.int IntKind.u8 n67, Value.int IntKind.u8 n68, Value.int IntKind.u8 n69, Value.int IntKind.i64 n70, Value.string s71, Value.string s72, Value.int IntKind.i64 n73, Value.int IntKind.i64 n74, Value.int IntKind.i64 n75, Value.int IntKind.i64 n76, Value.int IntKind.i64 n77, Value.int IntKind.i64 n78, Value.int IntKind.i64 n79, Value.int IntKind.i64 n80, Value.int IntKind.i64 n81, Value.string s82, Value.string s83, Value.int IntKind.i64 n84, Value.int IntKind.i64 n85, Value.string s86, Value.int IntKind.i64 n87, Value.int IntKind.i64 n88, Value.int IntKind.i64 n89, Value.int IntKind.i64 n90, Value.int IntKind.i64 n91, Value.int IntKind.i64 n92, Value.int IntKind.i64 n93, Value.string s94, Value.string s95, Value.int IntKind.i64 n96, Value.int IntKind.i64 n97, Value.slice p98 k99 k100, Value.int IntKind.i64 n101, Value.int IntKind.i64 n102, Value.int IntKind.i64 n103, Value.int IntKind.i64 n104, Value.int IntKind.i64 n105, Value.int IntKind.i64 n106, Value.int IntKind.i64 n107] (74 : Nat)) w60 fun b108 w109 =>
   Ca Try.prog (36 : Nat) #[Value.slice (some { block := b108, off := (0 : Nat) }) (1 : Nat) (1 : Nat), Value.int IntKind.i64 (1 : Int)] w109 fun e110 w111 =>
   ∃ b112 : Bool,
   (
    e110 = Ending.returned (Value.bool b112)) ∧
   Br (b112)
    (
     Ca Try.prog (37 : Nat) #[] w111 fun e113 w114 =>
     ∃ b115 : Bool,
     (
      e113 = Ending.returned (Value.bool b115)) ∧
     R (Ending.returned (Value.bool b115)) w114)
    (
     ∃ I116 : Nat → List Value → World → Prop,
     (
      ∃ k117 : Nat,
      I116 k117 [Value.bool false, Value.pointer none, Value.int IntKind.i64 (0 : Int)] w111) ∧
     ∀ b118 : Bool,
     ∀ p119 : Option Addr,
     ∀ n120 : Int,
     ∀ k121 : Nat,
     ∀ w122 : World,
     (
      I116 k121 [Value.bool b118, Value.pointer p119, Value.int IntKind.i64 n120] w122) →
     Br (decide (n120 < (2 : Int)))
      (
       ∃ n123 : Int,
       ∃ s124 : ByteArray,
       ∃ s125 : ByteArray,
       ∃ n126 : Int,
       (
        Row w122 { block := b59, off := (3 : Nat) } (0 : Nat) [Value.int IntKind.i64 n123, Value.string s124, Value.string s125, Value.int IntKind.i64 n126]) ∧
       (
        (
         (0 : Int) ≤ (0 : Int)) ∧
        (0 : Int) < (↑(3 : Nat) : Int)) ∧
       ∃ n127 : Int,
       (
        w122.cell? { block := b59, off := (36 : Nat) } = some (Value.int IntKind.i64 n127)) ∧
       (
        (
         (0 : Int) ≤ (1 : Int)) ∧
        (1 : Int) < (↑(3 : Nat) : Int)) ∧
       ∃ n128 : Int,
       (
        w122.cell? { block := b59, off := (37 : Nat) } = some (Value.int IntKind.i64 n128)) ∧
       (
        (
         (0 : Int) ≤ (2 : Int)) ∧
        (2 : Int) < (↑(3 : Nat) : Int)) ∧
       ∃ n129 : Int,
       (
        w122.cell? { block := b59, off := (38 : Nat) } = some (Value.int IntKind.i64 n129)) ∧
       Ca Try.prog (38 : Nat) #[Value.pointer p119, Value.agg #[Value.int IntKind.i64 n123, Value.string s124, Value.string s125, Value.int IntKind.i64 n126], Value.int IntKind.i64 n127, Value.int IntKind.i64 n128, Value.int IntKind.i64 n129] w122 fun e130 w131 =>
       ∃ p132 : Option Addr,
       ∃ k133 : Nat,
       ∃ k134 : Nat,
       ∃ n135 : Int,
       (
        e130 = Ending.returned (Value.tuple #[Value.slice p132 k133 k134, Value.int IntKind.i64 n135])) ∧
       Ca Try.prog (39 : Nat) #[Value.pointer p119] w131 fun e136 w137 =>
       ∃ n138 : Int,
       ∃ n139 : Int,
       ∃ n140 : Int,
       ∃ s141 : ByteArray,
       ∃ n142 : Int,
       ∃ n143 : Int,
       ∃ b144 : Bool,
       (
        e136 = Ending.returned (Value.tuple #[Value.agg #[Value.int IntKind.i64 n138, Value.int IntKind.i64 n139, Value.int IntKind.i64 n140, Value.string s141, Value.int IntKind.i64 n142, Value.int IntKind.i64 n143], Value.bool b144])) ∧
       LetA (Obj.cells #[Value.int IntKind.i64 (0 : Int), Value.int IntKind.i64 (0 : Int), Value.int IntKind.i64 (0 : Int), Value.string { data := #[] }, Value.int IntKind.i64 (0 : Int), Value.int IntKind.i64 (0 : Int)] (80 : Nat)) w137 fun b145 w146 =>
       (
        WrRow w146 { block := b145, off := (0 : Nat) } (0 : Nat) [Value.int IntKind.i64 n138, Value.int IntKind.i64 n139, Value.int IntKind.i64 n140, Value.string s141, Value.int IntKind.i64 n142, Value.int IntKind.i64 n143]) ∧
       LetW (setRow w146 { block := b145, off := (0 : Nat) } (0 : Nat) [Value.int IntKind.i64 n138, Value.int IntKind.i64 n139, Value.int IntKind.i64 n140, Value.string s141, Value.int IntKind.i64 n142, Value.int IntKind.i64 n143]) fun w147 =>
       Br ((↑k133 : Int) != (0 : Int))
        (
         R (Ending.returned (Value.bool false)) w147)
        (
         Br (n135 != (1 : Int))
          (
           R (Ending.returned (Value.bool false)) w147)
          (
           ∃ n148 : Int,
           ∃ n149 : Int,
           ∃ n150 : Int,
           ∃ n151 : Int,
           ∃ n152 : Int,
           ∃ n153 : Int,
           ∃ n154 : Int,
           ∃ n155 : Int,
           ∃ s156 : ByteArray,
           ∃ s157 : ByteArray,
           ∃ n158 : Int,
           ∃ n159 : Int,
           ∃ s160 : ByteArray,
           ∃ n161 : Int,
           ∃ n162 : Int,
           ∃ n163 : Int,
           ∃ n164 : Int,
           ∃ n165 : Int,
           ∃ n166 : Int,
           ∃ n167 : Int,
           ∃ s168 : ByteArray,
           ∃ s169 : ByteArray,
           ∃ n170 : Int,
           ∃ n171 : Int,
           ∃ p172 : Option Addr,
           ∃ k173 : Nat,
           ∃ k174 : Nat,
           ∃ n175 : Int,
           ∃ n176 : Int,
           ∃ n177 : Int,
           ∃ n178 : Int,
           (
            Row w147 { block := b59, off := (7 : Nat) } (0 : Nat) [Value.int IntKind.i64 n148, Value.int IntKind.i64 n149, Value.int IntKind.i64 n150, Value.int IntKind.i64 n151, Value.int IntKind.i64 n152, Value.int IntKind.i64 n153, Value.int IntKind.i64 n154, Value.int IntKind.i64 n155, Value.string s156, Value.string s157, Value.int IntKind.i64 n158, Value.int IntKind.i64 n159, Value.string s160, Value.int IntKind.i64 n161, Value.int IntKind.i64 n162, Value.int IntKind.i64 n163, Value.int IntKind.i64 n164, Value.int IntKind.i64 n165, Value.int IntKind.i64 n166, Value.int IntKind.i64 n167, Value.string s168, Value.string s169, Value.int IntKind.i64 n170, Value.int IntKind.i64 n171, Value.slice p172 k173 k174, Value.int IntKind.i64 n175, Value.int IntKind.i64 n176, Value.int IntKind.i64 n177, Value.int IntKind.i64 n178]) ∧
           (
            (
             (0 : Int) ≤ (2 : Int)) ∧
            (2 : Int) < (↑(3 : Nat) : Int)) ∧
           ∃ n179 : Int,
           (
            w147.cell? { block := b59, off := (38 : Nat) } = some (Value.int IntKind.i64 n179)) ∧
           Ca Try.prog (40 : Nat) #[Value.pointer p119, Value.agg #[Value.int IntKind.i64 n148, Value.int IntKind.i64 n149, Value.int IntKind.i64 n150, Value.int IntKind.i64 n151, Value.int IntKind.i64 n152, Value.int IntKind.i64 n153, Value.int IntKind.i64 n154, Value.int IntKind.i64 n155, Value.string s156, Value.string s157, Value.int IntKind.i64 n158, Value.int IntKind.i64 n159, Value.string s160, Value.int IntKind.i64 n161, Value.int IntKind.i64 n162, Value.int IntKind.i64 n163, Value.int IntKind.i64 n164, Value.int IntKind.i64 n165, Value.int IntKind.i64 n166, Value.int IntKind.i64 n167, Value.string s168, Value.string s169, Value.int IntKind.i64 n170, Value.int IntKind.i64 n171, Value.slice p172 k173 k174, Value.int IntKind.i64 n175, Value.int IntKind.i64 n176, Value.int IntKind.i64 n177, Value.int IntKind.i64 n178], Value.int IntKind.i64 n179] w147 fun e180 w181 =>
           ∃ p182 : Option Addr,
           ∃ k183 : Nat,
           ∃ k184 : Nat,
           (
            e180 = Ending.returned (Value.slice p182 k183 k184)) ∧
           Br ((↑k183 : Int) != (0 : Int))
            (
             R (Ending.returned (Value.bool false)) w181)
            (
             (
              (
               (0 : Int) ≤ (2 : Int)) ∧
              (2 : Int) < (↑(3 : Nat) : Int)) ∧
             ∃ n185 : Int,
             (
              w181.cell? { block := b59, off := (38 : Nat) } = some (Value.int IntKind.i64 n185)) ∧
             Ca Try.prog (41 : Nat) #[Value.pointer p119, Value.int IntKind.i64 n185] w181 fun e186 w187 =>
             ∃ p188 : Option Addr,
             ∃ k189 : Nat,
             ∃ k190 : Nat,
             (
              e186 = Ending.returned (Value.slice p188 k189 k190)) ∧
             Br ((↑k189 : Int) != (0 : Int))
              (
               R (Ending.returned (Value.bool false)) w187)
              (
               Br (b144)
                (
                 R (Ending.returned (Value.bool false)) w187)
                (
                 Ca Try.prog (42 : Nat) #[Value.pointer p119] w187 fun e191 w192 =>
                 ∃ b193 : Bool,
                 (
                  e191 = Ending.returned (Value.bool b193)) ∧
                 Br (b193)
                  (
                   R (Ending.returned (Value.bool false)) w192)
                  (
                   Ca Try.prog (43 : Nat) #[Value.pointer p119] w192 fun e194 w195 =>
                   ∃ n196 : Int,
                   (
                    e194 = Ending.returned (Value.int IntKind.i64 n196)) ∧
                   Br (n196 != (0 : Int))
                    (
                     R (Ending.returned (Value.bool false)) w195)
                    (
                     Ca Try.prog (44 : Nat) #[Value.pointer p119] w195 fun e197 w198 =>
                     ∃ n199 : Int,
                     (
                      e197 = Ending.returned (Value.int IntKind.i64 n199)) ∧
                     Br (n199 != (0 : Int))
                      (
                       R (Ending.returned (Value.bool false)) w198)
                      (
                       LetA (Obj.cells #[Value.int IntKind.i64 (0 : Int), Value.int IntKind.i64 (0 : Int), Value.int IntKind.i64 (0 : Int), Value.slice none (0 : Nat) (0 : Nat), Value.int IntKind.i64 (0 : Int), Value.int IntKind.i64 (0 : Int), Value.int IntKind.i64 (0 : Int), Value.int IntKind.i64 (0 : Int), Value.int IntKind.i64 (0 : Int), Value.int IntKind.i64 (0 : Int), Value.int IntKind.i64 (0 : Int), Value.int IntKind.i64 (0 : Int), Value.int IntKind.i64 (0 : Int), Value.int IntKind.i64 (0 : Int), Value.slice none (0 : Nat) (0 : Nat), Value.int IntKind.i64 (0 : Int), Value.pointer none, Value.pointer none, Value.int IntKind.i64 (0 : Int), Value.int IntKind.i64 (0 : Int), Value.int IntKind.i64 (0 : Int), Value.int IntKind.i64 (0 : Int), Value.int IntKind.i64 (0 : Int), Value.int IntKind.i64 (0 : Int), Value.int IntKind.i64 (0 : Int), Value.int IntKind.i64 (0 : Int), Value.string { data := #[] }, Value.string { data := #[] }, Value.int IntKind.i64 (0 : Int), Value.int IntKind.i64 (0 : Int), Value.string { data := #[] }, Value.int IntKind.i64 (0 : Int), Value.int IntKind.i64 (0 : Int), Value.int IntKind.i64 (0 : Int), Value.int IntKind.i64 (0 : Int), Value.int IntKind.i64 (0 : Int), Value.int IntKind.i64 (0 : Int), Value.int IntKind.i64 (0 : Int), Value.string { data := #[] }, Value.string { data := #[] }, Value.int IntKind.i64 (0 : Int), Value.int IntKind.i64 (0 : Int), Value.slice none (0 : Nat) (0 : Nat), Value.int IntKind.i64 (0 : Int), Value.int IntKind.i64 (0 : Int), Value.int IntKind.i64 (0 : Int), Value.int IntKind.i64 (0 : Int), Value.int IntKind.i64 (0 : Int), Value.int IntKind.i64 (0 : Int), Value.bool false] (88 : Nat)) w198 fun b200 w201 =>
                       LetI (IntKind.i64.wrap (n120 + (1 : Int))) fun n202 =>
                       ∃ k203 : Nat,
                       (
                        k203 < k121) ∧
                       I116 k203 [Value.bool b118, Value.pointer (some { block := b200, off := (0 : Nat) }), Value.int IntKind.i64 n202] w201)))))))))
      (
       ∃ I204 : Nat → List Value → World → Prop,
       (
        ∃ k205 : Nat,
        I204 k205 [Value.bool b118, Value.int IntKind.i64 (0 : Int)] w122) ∧
       ∀ b206 : Bool,
       ∀ n207 : Int,
       ∀ k208 : Nat,
       ∀ w209 : World,
       (
        I204 k208 [Value.bool b206, Value.int IntKind.i64 n207] w209) →
       Br (decide (n207 < (2 : Int)))
        (
         ∃ n210 : Int,
         ∃ n211 : Int,
         ∃ n212 : Int,
         ∃ p213 : Option Addr,
         ∃ k214 : Nat,
         ∃ k215 : Nat,
         ∃ n216 : Int,
         ∃ n217 : Int,
         ∃ n218 : Int,
         ∃ n219 : Int,
         ∃ n220 : Int,
         ∃ n221 : Int,
         ∃ n222 : Int,
         ∃ n223 : Int,
         (
          Row w209 { block := b57, off := (0 : Nat) } (0 : Nat) [Value.int IntKind.i64 n210, Value.int IntKind.i64 n211, Value.int IntKind.i64 n212, Value.slice p213 k214 k215, Value.int IntKind.i64 n216, Value.int IntKind.i64 n217, Value.int IntKind.i64 n218, Value.int IntKind.i64 n219, Value.int IntKind.i64 n220, Value.int IntKind.i64 n221, Value.int IntKind.i64 n222, Value.int IntKind.i64 n223]) ∧
         Ca Try.prog (45 : Nat) #[Value.agg #[Value.int IntKind.i64 n210, Value.int IntKind.i64 n211, Value.int IntKind.i64 n212, Value.slice p213 k214 k215, Value.int IntKind.i64 n216, Value.int IntKind.i64 n217, Value.int IntKind.i64 n218, Value.int IntKind.i64 n219, Value.int IntKind.i64 n220, Value.int IntKind.i64 n221, Value.int IntKind.i64 n222, Value.int IntKind.i64 n223], Value.int IntKind.i64 n15] w209 fun e224 w225 =>
         ∃ p226 : Option Addr,
         ∃ n227 : Int,
         (
          e224 = Ending.returned (Value.tuple #[Value.pointer p226, Value.int IntKind.i64 n227])) ∧
         ∃ n228 : Int,
         ∃ n229 : Int,
         ∃ n230 : Int,
         ∃ p231 : Option Addr,
         ∃ k232 : Nat,
         ∃ k233 : Nat,
         ∃ n234 : Int,
         ∃ n235 : Int,
         ∃ n236 : Int,
         ∃ n237 : Int,
         ∃ n238 : Int,
         ∃ n239 : Int,
         ∃ n240 : Int,
         ∃ n241 : Int,
         (
          Row w225 { block := b57, off := (0 : Nat) } (0 : Nat) [Value.int IntKind.i64 n228, Value.int IntKind.i64 n229, Value.int IntKind.i64 n230, Value.slice p231 k232 k233, Value.int IntKind.i64 n234, Value.int IntKind.i64 n235, Value.int IntKind.i64 n236, Value.int IntKind.i64 n237, Value.int IntKind.i64 n238, Value.int IntKind.i64 n239, Value.int IntKind.i64 n240, Value.int IntKind.i64 n241]) ∧
         Ca Try.prog (46 : Nat) #[Value.agg #[Value.int IntKind.i64 n228, Value.int IntKind.i64 n229, Value.int IntKind.i64 n230, Value.slice p231 k232 k233, Value.int IntKind.i64 n234, Value.int IntKind.i64 n235, Value.int IntKind.i64 n236, Value.int IntKind.i64 n237, Value.int IntKind.i64 n238, Value.int IntKind.i64 n239, Value.int IntKind.i64 n240, Value.int IntKind.i64 n241], Value.int IntKind.i64 n15] w225 fun e242 w243 =>
         ∃ p244 : Option Addr,
         ∃ n245 : Int,
         (
          e242 = Ending.returned (Value.tuple #[Value.pointer p244, Value.int IntKind.i64 n245])) ∧
         Br (n227 != n245)
          (
           R (Ending.returned (Value.bool false)) w243)
          (
           Br (!p226.isNone == p244.isNone)
            (
             R (Ending.returned (Value.bool false)) w243)
            (
             ∃ n246 : Int,
             ∃ n247 : Int,
             ∃ n248 : Int,
             ∃ p249 : Option Addr,
             ∃ k250 : Nat,
             ∃ k251 : Nat,
             ∃ n252 : Int,
             ∃ n253 : Int,
             ∃ n254 : Int,
             ∃ n255 : Int,
             ∃ n256 : Int,
             ∃ n257 : Int,
             ∃ n258 : Int,
             ∃ n259 : Int,
             (
              Row w243 { block := b57, off := (0 : Nat) } (0 : Nat) [Value.int IntKind.i64 n246, Value.int IntKind.i64 n247, Value.int IntKind.i64 n248, Value.slice p249 k250 k251, Value.int IntKind.i64 n252, Value.int IntKind.i64 n253, Value.int IntKind.i64 n254, Value.int IntKind.i64 n255, Value.int IntKind.i64 n256, Value.int IntKind.i64 n257, Value.int IntKind.i64 n258, Value.int IntKind.i64 n259]) ∧
             Ca Try.prog (14 : Nat) #[Value.agg #[Value.int IntKind.i64 n246, Value.int IntKind.i64 n247, Value.int IntKind.i64 n248, Value.slice p249 k250 k251, Value.int IntKind.i64 n252, Value.int IntKind.i64 n253, Value.int IntKind.i64 n254, Value.int IntKind.i64 n255, Value.int IntKind.i64 n256, Value.int IntKind.i64 n257, Value.int IntKind.i64 n258, Value.int IntKind.i64 n259]] w243 fun e260 w261 =>
             ∃ n262 : Int,
             ∃ n263 : Int,
             ∃ n264 : Int,
             ∃ p265 : Option Addr,
             ∃ k266 : Nat,
             ∃ k267 : Nat,
             ∃ n268 : Int,
             ∃ n269 : Int,
             ∃ n270 : Int,
             ∃ n271 : Int,
             ∃ n272 : Int,
             ∃ n273 : Int,
             ∃ n274 : Int,
             ∃ n275 : Int,
             (
              e260 = Ending.returned (Value.agg #[Value.int IntKind.i64 n262, Value.int IntKind.i64 n263, Value.int IntKind.i64 n264, Value.slice p265 k266 k267, Value.int IntKind.i64 n268, Value.int IntKind.i64 n269, Value.int IntKind.i64 n270, Value.int IntKind.i64 n271, Value.int IntKind.i64 n272, Value.int IntKind.i64 n273, Value.int IntKind.i64 n274, Value.int IntKind.i64 n275])) ∧
             (
              WrRow w261 { block := b57, off := (0 : Nat) } (0 : Nat) [Value.int IntKind.i64 n262, Value.int IntKind.i64 n263, Value.int IntKind.i64 n264, Value.slice p265 k266 k267, Value.int IntKind.i64 n268, Value.int IntKind.i64 n269, Value.int IntKind.i64 n270, Value.int IntKind.i64 n271, Value.int IntKind.i64 n272, Value.int IntKind.i64 n273, Value.int IntKind.i64 n274, Value.int IntKind.i64 n275]) ∧
             LetW (setRow w261 { block := b57, off := (0 : Nat) } (0 : Nat) [Value.int IntKind.i64 n262, Value.int IntKind.i64 n263, Value.int IntKind.i64 n264, Value.slice p265 k266 k267, Value.int IntKind.i64 n268, Value.int IntKind.i64 n269, Value.int IntKind.i64 n270, Value.int IntKind.i64 n271, Value.int IntKind.i64 n272, Value.int IntKind.i64 n273, Value.int IntKind.i64 n274, Value.int IntKind.i64 n275]) fun w276 =>
             LetI (IntKind.i64.wrap (n207 + (1 : Int))) fun n277 =>
             ∃ k278 : Nat,
             (
              k278 < k208) ∧
             I204 k278 [Value.bool b206, Value.int IntKind.i64 n277] w276)))
        (
         Ca Try.prog (37 : Nat) #[] w209 fun e279 w280 =>
         ∃ b281 : Bool,
         (
          e279 = Ending.returned (Value.bool b281)) ∧
         R (Ending.returned (Value.bool b281)) w280))))
theorem lawKNone_ok (n1 : Int) (n2 : Int) (n3 : Int) (p4 : Option Addr) (k5 : Nat) (k6 : Nat) (n7 : Int) (n8 : Int) (n9 : Int) (n10 : Int) (n11 : Int) (n12 : Int) (n13 : Int) (n14 : Int) (n15 : Int) (n16 : Int) (n17 : Int) (n18 : Int) (n19 : Int) (s20 : ByteArray) (s21 : ByteArray) (n22 : Int) (n23 : Int) (n24 : Int) (n25 : Int) (n26 : Int) (n27 : Int) (n28 : Int) (n29 : Int) (n30 : Int) (s31 : ByteArray) (s32 : ByteArray) (n33 : Int) (n34 : Int) (s35 : ByteArray) (n36 : Int) (n37 : Int) (n38 : Int) (n39 : Int) (n40 : Int) (n41 : Int) (n42 : Int) (s43 : ByteArray) (s44 : ByteArray) (n45 : Int) (n46 : Int) (p47 : Option Addr) (k48 : Nat) (k49 : Nat) (n50 : Int) (n51 : Int) (n52 : Int) (n53 : Int) (n54 : Int) (n55 : Int) (n56 : Int) (w : World) (R : Ending → World → Prop) (h : lawKNone n1 n2 n3 p4 k5 k6 n7 n8 n9 n10 n11 n12 n13 n14 n15 n16 n17 n18 n19 s20 s21 n22 n23 n24 n25 n26 n27 n28 n29 n30 s31 s32 n33 n34 s35 n36 n37 n38 n39 n40 n41 n42 s43 s44 n45 n46 p47 k48 k49 n50 n51 n52 n53 n54 n55 n56 w R) : Ca Try.prog 9 #[Value.agg #[Value.int IntKind.i64 n1, Value.int IntKind.i64 n2, Value.int IntKind.i64 n3, Value.slice p4 k5 k6, Value.int IntKind.i64 n7, Value.int IntKind.i64 n8, Value.int IntKind.i64 n9, Value.int IntKind.i64 n10, Value.int IntKind.i64 n11, Value.int IntKind.i64 n12, Value.int IntKind.i64 n13, Value.int IntKind.i64 n14], Value.int IntKind.i64 n15, Value.agg #[Value.int IntKind.u8 n16, Value.int IntKind.u8 n17, Value.int IntKind.u8 n18, Value.int IntKind.i64 n19, Value.string s20, Value.string s21, Value.int IntKind.i64 n22, Value.int IntKind.i64 n23, Value.int IntKind.i64 n24, Value.int IntKind.i64 n25, Value.int IntKind.i64 n26, Value.int IntKind.i64 n27, Value.int IntKind.i64 n28, Value.int IntKind.i64 n29, Value.int IntKind.i64 n30, Value.string s31, Value.string s32, Value.int IntKind.i64 n33, Value.int IntKind.i64 n34, Value.string s35, Value.int IntKind.i64 n36, Value.int IntKind.i64 n37, Value.int IntKind.i64 n38, Value.int IntKind.i64 n39, Value.int IntKind.i64 n40, Value.int IntKind.i64 n41, Value.int IntKind.i64 n42, Value.string s43, Value.string s44, Value.int IntKind.i64 n45, Value.int IntKind.i64 n46, Value.slice p47 k48 k49, Value.int IntKind.i64 n50, Value.int IntKind.i64 n51, Value.int IntKind.i64 n52, Value.int IntKind.i64 n53, Value.int IntKind.i64 n54, Value.int IntKind.i64 n55, Value.int IntKind.i64 n56]] w R :=
  Ca.of_fvc (c := bodyOf Try.f9) (by kernel_rfl) Try.func9 (by kernel_rfl) [] (Eq.mp (by kernel_rfl) h)

end Go.Proofs.Ytljipmhkpnigkaa
