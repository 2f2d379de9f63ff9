/- The verification conditions of this seat's functions, printed by a program; the kernel holds each against the loaded code. -/
import Derived.Test.YtljipmhkpnigkaaProg
import Derived.KernelRfl
import Derived.Test.YtljipmhkpnigkaaDU2
set_option maxRecDepth 100000
namespace Go.Proofs.Ytljipmhkpnigkaa
open Go Go.Vc Go.Proofs
def lawSTell (n1 : Int) (n2 : Int) (n3 : Int) (p4 : Option Addr) (k5 : Nat) (k6 : Nat) (n7 : Int) (n8 : Int) (n9 : Int) (n10 : Int) (n11 : Int) (n12 : Int) (n13 : Int) (n14 : Int) (w : World) (R : Ending → World → Prop) : Prop :=
 LetA (Obj.cells #[Value.int IntKind.i64 n1, Value.int IntKind.i64 n2, Value.int IntKind.i64 n3, Value.slice p4 k5 k6, Value.int IntKind.i64 n7, Value.int IntKind.i64 n8, Value.int IntKind.i64 n9, Value.int IntKind.i64 n10, Value.int IntKind.i64 n11, Value.int IntKind.i64 n12, Value.int IntKind.i64 n13, Value.int IntKind.i64 n14] (24 : Nat)) w fun b15 w16 =>
 ∃ p17 : Option Addr,
 ∃ k18 : Nat,
 ∃ k19 : Nat,
 (
  w16.cell? { block := b15, off := (3 : Nat) } = some (Value.slice p17 k18 k19)) ∧
 Br (decide ((↑k18 : Int) > (20 : Int)))
  (
   Ca Try.prog (12 : Nat) #[] w16 fun e20 w21 =>
   ∃ b22 : Bool,
   (
    e20 = Ending.returned (Value.bool b22)) ∧
   R (Ending.returned (Value.bool b22)) w21)
  (
   ∃ n23 : Int,
   ∃ n24 : Int,
   ∃ n25 : Int,
   ∃ p26 : Option Addr,
   ∃ k27 : Nat,
   ∃ k28 : Nat,
   ∃ n29 : Int,
   ∃ n30 : Int,
   ∃ n31 : Int,
   ∃ n32 : Int,
   ∃ n33 : Int,
   ∃ n34 : Int,
   ∃ n35 : Int,
   ∃ n36 : Int,
   (
    Row w16 { block := b15, off := (0 : Nat) } (0 : Nat) [Value.int IntKind.i64 n23, Value.int IntKind.i64 n24, Value.int IntKind.i64 n25, Value.slice p26 k27 k28, Value.int IntKind.i64 n29, Value.int IntKind.i64 n30, Value.int IntKind.i64 n31, Value.int IntKind.i64 n32, Value.int IntKind.i64 n33, Value.int IntKind.i64 n34, Value.int IntKind.i64 n35, Value.int IntKind.i64 n36]) ∧
   LetA (Obj.cells #[Value.int IntKind.i64 (0 : Int), Value.int IntKind.i64 (0 : Int), Value.int IntKind.i64 (0 : Int), Value.slice none (0 : Nat) (0 : Nat), Value.int IntKind.i64 (0 : Int), Value.int IntKind.i64 (0 : Int), Value.int IntKind.i64 (0 : Int), Value.int IntKind.i64 (0 : Int), Value.int IntKind.i64 (0 : Int), Value.int IntKind.i64 (0 : Int), Value.int IntKind.i64 (0 : Int), Value.int IntKind.i64 (0 : Int)] (24 : Nat)) w16 fun b37 w38 =>
   (
    WrRow w38 { block := b37, off := (0 : Nat) } (0 : Nat) [Value.int IntKind.i64 n23, Value.int IntKind.i64 n24, Value.int IntKind.i64 n25, Value.slice p26 k27 k28, Value.int IntKind.i64 n29, Value.int IntKind.i64 n30, Value.int IntKind.i64 n31, Value.int IntKind.i64 n32, Value.int IntKind.i64 n33, Value.int IntKind.i64 n34, Value.int IntKind.i64 n35, Value.int IntKind.i64 n36]) ∧
   LetW (setRow w38 { block := b37, off := (0 : Nat) } (0 : Nat) [Value.int IntKind.i64 n23, Value.int IntKind.i64 n24, Value.int IntKind.i64 n25, Value.slice p26 k27 k28, Value.int IntKind.i64 n29, Value.int IntKind.i64 n30, Value.int IntKind.i64 n31, Value.int IntKind.i64 n32, Value.int IntKind.i64 n33, Value.int IntKind.i64 n34, Value.int IntKind.i64 n35, Value.int IntKind.i64 n36]) fun w39 =>
   ∃ p40 : Option Addr,
   ∃ k41 : Nat,
   ∃ k42 : Nat,
   (
    w39.cell? { block := b15, off := (3 : Nat) } = some (Value.slice p40 k41 k42)) ∧
   RunsV Try.prog (Builtin.append_ #[(22 : Nat), (22 : Nat)] (22 : Nat) #[Value.slice none (0 : Nat) (0 : Nat), Value.slice p40 k41 k42]) w39 fun v43 w44 =>
   ∃ p45 : Option Addr,
   ∃ k46 : Nat,
   ∃ k47 : Nat,
   (
    v43 = Value.slice p45 k46 k47) ∧
   (
    Wr w44 { block := b37, off := (3 : Nat) }) ∧
   LetW (w44.setCell { block := b37, off := (3 : Nat) } (Value.slice p45 k46 k47)) fun w48 =>
   ∃ n49 : Int,
   ∃ n50 : Int,
   ∃ n51 : Int,
   ∃ p52 : Option Addr,
   ∃ k53 : Nat,
   ∃ k54 : Nat,
   ∃ n55 : Int,
   ∃ n56 : Int,
   ∃ n57 : Int,
   ∃ n58 : Int,
   ∃ n59 : Int,
   ∃ n60 : Int,
   ∃ n61 : Int,
   ∃ n62 : Int,
   (
    Row w48 { block := b37, off := (0 : Nat) } (0 : Nat) [Value.int IntKind.i64 n49, Value.int IntKind.i64 n50, Value.int IntKind.i64 n51, Value.slice p52 k53 k54, Value.int IntKind.i64 n55, Value.int IntKind.i64 n56, Value.int IntKind.i64 n57, Value.int IntKind.i64 n58, Value.int IntKind.i64 n59, Value.int IntKind.i64 n60, Value.int IntKind.i64 n61, Value.int IntKind.i64 n62]) ∧
   ∃ n63 : Int,
   ∃ n64 : Int,
   ∃ n65 : Int,
   ∃ p66 : Option Addr,
   ∃ k67 : Nat,
   ∃ k68 : Nat,
   ∃ n69 : Int,
   ∃ n70 : Int,
   ∃ n71 : Int,
   ∃ n72 : Int,
   ∃ n73 : Int,
   ∃ n74 : Int,
   ∃ n75 : Int,
   ∃ n76 : Int,
   (
    Row w48 { block := b15, off := (0 : Nat) } (0 : Nat) [Value.int IntKind.i64 n63, Value.int IntKind.i64 n64, Value.int IntKind.i64 n65, Value.slice p66 k67 k68, Value.int IntKind.i64 n69, Value.int IntKind.i64 n70, Value.int IntKind.i64 n71, Value.int IntKind.i64 n72, Value.int IntKind.i64 n73, Value.int IntKind.i64 n74, Value.int IntKind.i64 n75, Value.int IntKind.i64 n76]) ∧
   (
    Ca Try.prog (13 : Nat) #[Value.agg #[Value.int IntKind.i64 n49, Value.int IntKind.i64 n50, Value.int IntKind.i64 n51, Value.slice p52 k53 k54, Value.int IntKind.i64 n55, Value.int IntKind.i64 n56, Value.int IntKind.i64 n57, Value.int IntKind.i64 n58, Value.int IntKind.i64 n59, Value.int IntKind.i64 n60, Value.int IntKind.i64 n61, Value.int IntKind.i64 n62]] w48 fun e77 w78 =>
    ∃ n79 : Int,
    ∃ n80 : Int,
    ∃ n81 : Int,
    ∃ p82 : Option Addr,
    ∃ k83 : Nat,
    ∃ k84 : Nat,
    ∃ n85 : Int,
    ∃ n86 : Int,
    ∃ n87 : Int,
    ∃ n88 : Int,
    ∃ n89 : Int,
    ∃ n90 : Int,
    ∃ n91 : Int,
    ∃ n92 : Int,
    (
     e77 = Ending.returned (Value.agg #[Value.int IntKind.i64 n79, Value.int IntKind.i64 n80, Value.int IntKind.i64 n81, Value.slice p82 k83 k84, Value.int IntKind.i64 n85, Value.int IntKind.i64 n86, Value.int IntKind.i64 n87, Value.int IntKind.i64 n88, Value.int IntKind.i64 n89, Value.int IntKind.i64 n90, Value.int IntKind.i64 n91, Value.int IntKind.i64 n92])) ∧
    (
     Row w78 { block := b15, off := (0 : Nat) } (0 : Nat) [Value.int IntKind.i64 n63, Value.int IntKind.i64 n64, Value.int IntKind.i64 n65, Value.slice p66 k67 k68, Value.int IntKind.i64 n69, Value.int IntKind.i64 n70, Value.int IntKind.i64 n71, Value.int IntKind.i64 n72, Value.int IntKind.i64 n73, Value.int IntKind.i64 n74, Value.int IntKind.i64 n75, Value.int IntKind.i64 n76]) ∧
    (
     Ca Try.prog (14 : Nat) #[Value.agg #[Value.int IntKind.i64 n63, Value.int IntKind.i64 n64, Value.int IntKind.i64 n65, Value.slice p66 k67 k68, Value.int IntKind.i64 n69, Value.int IntKind.i64 n70, Value.int IntKind.i64 n71, Value.int IntKind.i64 n72, Value.int IntKind.i64 n73, Value.int IntKind.i64 n74, Value.int IntKind.i64 n75, Value.int IntKind.i64 n76]] w78 fun e93 w94 =>
     ∃ n95 : Int,
     ∃ n96 : Int,
     ∃ n97 : Int,
     ∃ p98 : Option Addr,
     ∃ k99 : Nat,
     ∃ k100 : Nat,
     ∃ n101 : Int,
     ∃ n102 : Int,
     ∃ n103 : Int,
     ∃ n104 : Int,
     ∃ n105 : Int,
     ∃ n106 : Int,
     ∃ n107 : Int,
     ∃ n108 : Int,
     (
      e93 = Ending.returned (Value.agg #[Value.int IntKind.i64 n95, Value.int IntKind.i64 n96, Value.int IntKind.i64 n97, Value.slice p98 k99 k100, Value.int IntKind.i64 n101, Value.int IntKind.i64 n102, Value.int IntKind.i64 n103, Value.int IntKind.i64 n104, Value.int IntKind.i64 n105, Value.int IntKind.i64 n106, Value.int IntKind.i64 n107, Value.int IntKind.i64 n108])) ∧
     (
      LetA (Obj.cells #[Value.int IntKind.i64 (0 : Int), Value.int IntKind.i64 (0 : Int), Value.int IntKind.i64 (0 : Int), Value.slice none (0 : Nat) (0 : Nat), Value.int IntKind.i64 (0 : Int), Value.int IntKind.i64 (0 : Int), Value.int IntKind.i64 (0 : Int), Value.int IntKind.i64 (0 : Int), Value.int IntKind.i64 (0 : Int), Value.int IntKind.i64 (0 : Int), Value.int IntKind.i64 (0 : Int), Value.int IntKind.i64 (0 : Int)] (24 : Nat)) w94 fun b109 w110 =>
      LetA (Obj.cells #[Value.int IntKind.i64 (0 : Int), Value.int IntKind.i64 (0 : Int), Value.int IntKind.i64 (0 : Int), Value.slice none (0 : Nat) (0 : Nat), Value.int IntKind.i64 (0 : Int), Value.int IntKind.i64 (0 : Int), Value.int IntKind.i64 (0 : Int), Value.int IntKind.i64 (0 : Int), Value.int IntKind.i64 (0 : Int), Value.int IntKind.i64 (0 : Int), Value.int IntKind.i64 (0 : Int), Value.int IntKind.i64 (0 : Int)] (24 : Nat)) w110 fun b111 w112 =>
      (
       WrRow w112 { block := b109, off := (0 : Nat) } (0 : Nat) [Value.int IntKind.i64 n79, Value.int IntKind.i64 n80, Value.int IntKind.i64 n81, Value.slice p82 k83 k84, Value.int IntKind.i64 n85, Value.int IntKind.i64 n86, Value.int IntKind.i64 n87, Value.int IntKind.i64 n88, Value.int IntKind.i64 n89, Value.int IntKind.i64 n90, Value.int IntKind.i64 n91, Value.int IntKind.i64 n92]) ∧
      LetW (setRow w112 { block := b109, off := (0 : Nat) } (0 : Nat) [Value.int IntKind.i64 n79, Value.int IntKind.i64 n80, Value.int IntKind.i64 n81, Value.slice p82 k83 k84, Value.int IntKind.i64 n85, Value.int IntKind.i64 n86, Value.int IntKind.i64 n87, Value.int IntKind.i64 n88, Value.int IntKind.i64 n89, Value.int IntKind.i64 n90, Value.int IntKind.i64 n91, Value.int IntKind.i64 n92]) fun w113 =>
      (
       WrRow w113 { block := b111, off := (0 : Nat) } (0 : Nat) [Value.int IntKind.i64 n95, Value.int IntKind.i64 n96, Value.int IntKind.i64 n97, Value.slice p98 k99 k100, Value.int IntKind.i64 n101, Value.int IntKind.i64 n102, Value.int IntKind.i64 n103, Value.int IntKind.i64 n104, Value.int IntKind.i64 n105, Value.int IntKind.i64 n106, Value.int IntKind.i64 n107, Value.int IntKind.i64 n108]) ∧
      LetW (setRow w113 { block := b111, off := (0 : Nat) } (0 : Nat) [Value.int IntKind.i64 n95, Value.int IntKind.i64 n96, Value.int IntKind.i64 n97, Value.slice p98 k99 k100, Value.int IntKind.i64 n101, Value.int IntKind.i64 n102, Value.int IntKind.i64 n103, Value.int IntKind.i64 n104, Value.int IntKind.i64 n105, Value.int IntKind.i64 n106, Value.int IntKind.i64 n107, Value.int IntKind.i64 n108]) fun w114 =>
      ∃ n115 : Int,
      ∃ n116 : Int,
      ∃ n117 : Int,
      ∃ p118 : Option Addr,
      ∃ k119 : Nat,
      ∃ k120 : Nat,
      ∃ n121 : Int,
      ∃ n122 : Int,
      ∃ n123 : Int,
      ∃ n124 : Int,
      ∃ n125 : Int,
      ∃ n126 : Int,
      ∃ n127 : Int,
      ∃ n128 : Int,
      (
       Row w114 { block := b109, off := (0 : Nat) } (0 : Nat) [Value.int IntKind.i64 n115, Value.int IntKind.i64 n116, Value.int IntKind.i64 n117, Value.slice p118 k119 k120, Value.int IntKind.i64 n121, Value.int IntKind.i64 n122, Value.int IntKind.i64 n123, Value.int IntKind.i64 n124, Value.int IntKind.i64 n125, Value.int IntKind.i64 n126, Value.int IntKind.i64 n127, Value.int IntKind.i64 n128]) ∧
      ∃ n129 : Int,
      ∃ n130 : Int,
      ∃ n131 : Int,
      ∃ p132 : Option Addr,
      ∃ k133 : Nat,
      ∃ k134 : Nat,
      ∃ n135 : Int,
      ∃ n136 : Int,
      ∃ n137 : Int,
      ∃ n138 : Int,
      ∃ n139 : Int,
      ∃ n140 : Int,
      ∃ n141 : Int,
      ∃ n142 : Int,
      (
       Row w114 { block := b111, off := (0 : Nat) } (0 : Nat) [Value.int IntKind.i64 n129, Value.int IntKind.i64 n130, Value.int IntKind.i64 n131, Value.slice p132 k133 k134, Value.int IntKind.i64 n135, Value.int IntKind.i64 n136, Value.int IntKind.i64 n137, Value.int IntKind.i64 n138, Value.int IntKind.i64 n139, Value.int IntKind.i64 n140, Value.int IntKind.i64 n141, Value.int IntKind.i64 n142]) ∧
      Ca Try.prog (15 : Nat) #[Value.agg #[Value.int IntKind.i64 n115, Value.int IntKind.i64 n116, Value.int IntKind.i64 n117, Value.slice p118 k119 k120, Value.int IntKind.i64 n121, Value.int IntKind.i64 n122, Value.int IntKind.i64 n123, Value.int IntKind.i64 n124, Value.int IntKind.i64 n125, Value.int IntKind.i64 n126, Value.int IntKind.i64 n127, Value.int IntKind.i64 n128], Value.agg #[Value.int IntKind.i64 n129, Value.int IntKind.i64 n130, Value.int IntKind.i64 n131, Value.slice p132 k133 k134, Value.int IntKind.i64 n135, Value.int IntKind.i64 n136, Value.int IntKind.i64 n137, Value.int IntKind.i64 n138, Value.int IntKind.i64 n139, Value.int IntKind.i64 n140, Value.int IntKind.i64 n141, Value.int IntKind.i64 n142]] w114 fun e143 w144 =>
      ∃ b145 : Bool,
      (
       e143 = Ending.returned (Value.bool b145)) ∧
      Br (!b145)
       (
        R (Ending.returned (Value.bool false)) w144)
       (
        ∃ n146 : Int,
        ∃ n147 : Int,
        ∃ n148 : Int,
        ∃ p149 : Option Addr,
        ∃ k150 : Nat,
        ∃ k151 : Nat,
        ∃ n152 : Int,
        ∃ n153 : Int,
        ∃ n154 : Int,
        ∃ n155 : Int,
        ∃ n156 : Int,
        ∃ n157 : Int,
        ∃ n158 : Int,
        ∃ n159 : Int,
        (
         Row w144 { block := b37, off := (0 : Nat) } (0 : Nat) [Value.int IntKind.i64 n146, Value.int IntKind.i64 n147, Value.int IntKind.i64 n148, Value.slice p149 k150 k151, Value.int IntKind.i64 n152, Value.int IntKind.i64 n153, Value.int IntKind.i64 n154, Value.int IntKind.i64 n155, Value.int IntKind.i64 n156, Value.int IntKind.i64 n157, Value.int IntKind.i64 n158, Value.int IntKind.i64 n159]) ∧
        ∃ n160 : Int,
        ∃ n161 : Int,
        ∃ n162 : Int,
        ∃ p163 : Option Addr,
        ∃ k164 : Nat,
        ∃ k165 : Nat,
        ∃ n166 : Int,
        ∃ n167 : Int,
        ∃ n168 : Int,
        ∃ n169 : Int,
        ∃ n170 : Int,
        ∃ n171 : Int,
        ∃ n172 : Int,
        ∃ n173 : Int,
        (
         Row w144 { block := b15, off := (0 : Nat) } (0 : Nat) [Value.int IntKind.i64 n160, Value.int IntKind.i64 n161, Value.int IntKind.i64 n162, Value.slice p163 k164 k165, Value.int IntKind.i64 n166, Value.int IntKind.i64 n167, Value.int IntKind.i64 n168, Value.int IntKind.i64 n169, Value.int IntKind.i64 n170, Value.int IntKind.i64 n171, Value.int IntKind.i64 n172, Value.int IntKind.i64 n173]) ∧
        Ca Try.prog (15 : Nat) #[Value.agg #[Value.int IntKind.i64 n146, Value.int IntKind.i64 n147, Value.int IntKind.i64 n148, Value.slice p149 k150 k151, Value.int IntKind.i64 n152, Value.int IntKind.i64 n153, Value.int IntKind.i64 n154, Value.int IntKind.i64 n155, Value.int IntKind.i64 n156, Value.int IntKind.i64 n157, Value.int IntKind.i64 n158, Value.int IntKind.i64 n159], Value.agg #[Value.int IntKind.i64 n160, Value.int IntKind.i64 n161, Value.int IntKind.i64 n162, Value.slice p163 k164 k165, Value.int IntKind.i64 n166, Value.int IntKind.i64 n167, Value.int IntKind.i64 n168, Value.int IntKind.i64 n169, Value.int IntKind.i64 n170, Value.int IntKind.i64 n171, Value.int IntKind.i64 n172, Value.int IntKind.i64 n173]] w144 fun e174 w175 =>
        ∃ b176 : Bool,
        (
         e174 = Ending.returned (Value.bool b176)) ∧
        Br (!b176)
         (
          R (Ending.returned (Value.bool false)) w175)
         (
          ∃ n177 : Int,
          ∃ n178 : Int,
          ∃ n179 : Int,
          ∃ p180 : Option Addr,
          ∃ k181 : Nat,
          ∃ k182 : Nat,
          ∃ n183 : Int,
          ∃ n184 : Int,
          ∃ n185 : Int,
          ∃ n186 : Int,
          ∃ n187 : Int,
          ∃ n188 : Int,
          ∃ n189 : Int,
          ∃ n190 : Int,
          (
           Row w175 { block := b37, off := (0 : Nat) } (0 : Nat) [Value.int IntKind.i64 n177, Value.int IntKind.i64 n178, Value.int IntKind.i64 n179, Value.slice p180 k181 k182, Value.int IntKind.i64 n183, Value.int IntKind.i64 n184, Value.int IntKind.i64 n185, Value.int IntKind.i64 n186, Value.int IntKind.i64 n187, Value.int IntKind.i64 n188, Value.int IntKind.i64 n189, Value.int IntKind.i64 n190]) ∧
          ∃ n191 : Int,
          ∃ n192 : Int,
          ∃ n193 : Int,
          ∃ p194 : Option Addr,
          ∃ k195 : Nat,
          ∃ k196 : Nat,
          ∃ n197 : Int,
          ∃ n198 : Int,
          ∃ n199 : Int,
          ∃ n200 : Int,
          ∃ n201 : Int,
          ∃ n202 : Int,
          ∃ n203 : Int,
          ∃ n204 : Int,
          (
           Row w175 { block := b15, off := (0 : Nat) } (0 : Nat) [Value.int IntKind.i64 n191, Value.int IntKind.i64 n192, Value.int IntKind.i64 n193, Value.slice p194 k195 k196, Value.int IntKind.i64 n197, Value.int IntKind.i64 n198, Value.int IntKind.i64 n199, Value.int IntKind.i64 n200, Value.int IntKind.i64 n201, Value.int IntKind.i64 n202, Value.int IntKind.i64 n203, Value.int IntKind.i64 n204]) ∧
          Ca Try.prog (16 : Nat) #[Value.agg #[Value.int IntKind.i64 n177, Value.int IntKind.i64 n178, Value.int IntKind.i64 n179, Value.slice p180 k181 k182, Value.int IntKind.i64 n183, Value.int IntKind.i64 n184, Value.int IntKind.i64 n185, Value.int IntKind.i64 n186, Value.int IntKind.i64 n187, Value.int IntKind.i64 n188, Value.int IntKind.i64 n189, Value.int IntKind.i64 n190]] w175 fun e205 w206 =>
          ∃ n207 : Int,
          (
           e205 = Ending.returned (Value.int IntKind.i64 n207)) ∧
          (
           Row w206 { block := b15, off := (0 : Nat) } (0 : Nat) [Value.int IntKind.i64 n191, Value.int IntKind.i64 n192, Value.int IntKind.i64 n193, Value.slice p194 k195 k196, Value.int IntKind.i64 n197, Value.int IntKind.i64 n198, Value.int IntKind.i64 n199, Value.int IntKind.i64 n200, Value.int IntKind.i64 n201, Value.int IntKind.i64 n202, Value.int IntKind.i64 n203, Value.int IntKind.i64 n204]) ∧
          Ca Try.prog (17 : Nat) #[Value.agg #[Value.int IntKind.i64 n191, Value.int IntKind.i64 n192, Value.int IntKind.i64 n193, Value.slice p194 k195 k196, Value.int IntKind.i64 n197, Value.int IntKind.i64 n198, Value.int IntKind.i64 n199, Value.int IntKind.i64 n200, Value.int IntKind.i64 n201, Value.int IntKind.i64 n202, Value.int IntKind.i64 n203, Value.int IntKind.i64 n204]] w206 fun e208 w209 =>
          ∃ n210 : Int,
          (
           e208 = Ending.returned (Value.int IntKind.i64 n210)) ∧
          Br (n207 != n210)
           (
            R (Ending.returned (Value.bool false)) w209)
           (
            ∃ n211 : Int,
            ∃ n212 : Int,
            ∃ n213 : Int,
            ∃ p214 : Option Addr,
            ∃ k215 : Nat,
            ∃ k216 : Nat,
            ∃ n217 : Int,
            ∃ n218 : Int,
            ∃ n219 : Int,
            ∃ n220 : Int,
            ∃ n221 : Int,
            ∃ n222 : Int,
            ∃ n223 : Int,
            ∃ n224 : Int,
            (
             Row w209 { block := b37, off := (0 : Nat) } (0 : Nat) [Value.int IntKind.i64 n211, Value.int IntKind.i64 n212, Value.int IntKind.i64 n213, Value.slice p214 k215 k216, Value.int IntKind.i64 n217, Value.int IntKind.i64 n218, Value.int IntKind.i64 n219, Value.int IntKind.i64 n220, Value.int IntKind.i64 n221, Value.int IntKind.i64 n222, Value.int IntKind.i64 n223, Value.int IntKind.i64 n224]) ∧
            Ca Try.prog (18 : Nat) #[Value.agg #[Value.int IntKind.i64 n211, Value.int IntKind.i64 n212, Value.int IntKind.i64 n213, Value.slice p214 k215 k216, Value.int IntKind.i64 n217, Value.int IntKind.i64 n218, Value.int IntKind.i64 n219, Value.int IntKind.i64 n220, Value.int IntKind.i64 n221, Value.int IntKind.i64 n222, Value.int IntKind.i64 n223, Value.int IntKind.i64 n224]] w209 fun e225 w226 =>
            ∃ n227 : Int,
            ∃ p228 : Option Addr,
            ∃ k229 : Nat,
            ∃ k230 : Nat,
            ∃ n231 : Int,
            ∃ n232 : Int,
            (
             e225 = Ending.returned (Value.tuple #[Value.agg #[Value.int IntKind.i64 n227, Value.slice p228 k229 k230, Value.int IntKind.i64 n231], Value.int IntKind.i64 n232])) ∧
            LetA (Obj.cells #[Value.int IntKind.i64 (0 : Int), Value.slice none (0 : Nat) (0 : Nat), Value.int IntKind.i64 (0 : Int)] (32 : Nat)) w226 fun b233 w234 =>
            (
             WrRow w234 { block := b233, off := (0 : Nat) } (0 : Nat) [Value.int IntKind.i64 n227, Value.slice p228 k229 k230, Value.int IntKind.i64 n231]) ∧
            LetW (setRow w234 { block := b233, off := (0 : Nat) } (0 : Nat) [Value.int IntKind.i64 n227, Value.slice p228 k229 k230, Value.int IntKind.i64 n231]) fun w235 =>
            ∃ n236 : Int,
            ∃ n237 : Int,
            ∃ n238 : Int,
            ∃ p239 : Option Addr,
            ∃ k240 : Nat,
            ∃ k241 : Nat,
            ∃ n242 : Int,
            ∃ n243 : Int,
            ∃ n244 : Int,
            ∃ n245 : Int,
            ∃ n246 : Int,
            ∃ n247 : Int,
            ∃ n248 : Int,
            ∃ n249 : Int,
            (
             Row w235 { block := b15, off := (0 : Nat) } (0 : Nat) [Value.int IntKind.i64 n236, Value.int IntKind.i64 n237, Value.int IntKind.i64 n238, Value.slice p239 k240 k241, Value.int IntKind.i64 n242, Value.int IntKind.i64 n243, Value.int IntKind.i64 n244, Value.int IntKind.i64 n245, Value.int IntKind.i64 n246, Value.int IntKind.i64 n247, Value.int IntKind.i64 n248, Value.int IntKind.i64 n249]) ∧
            Ca Try.prog (19 : Nat) #[Value.agg #[Value.int IntKind.i64 n236, Value.int IntKind.i64 n237, Value.int IntKind.i64 n238, Value.slice p239 k240 k241, Value.int IntKind.i64 n242, Value.int IntKind.i64 n243, Value.int IntKind.i64 n244, Value.int IntKind.i64 n245, Value.int IntKind.i64 n246, Value.int IntKind.i64 n247, Value.int IntKind.i64 n248, Value.int IntKind.i64 n249]] w235 fun e250 w251 =>
            ∃ n252 : Int,
            ∃ p253 : Option Addr,
            ∃ k254 : Nat,
            ∃ k255 : Nat,
            ∃ n256 : Int,
            ∃ n257 : Int,
            (
             e250 = Ending.returned (Value.tuple #[Value.agg #[Value.int IntKind.i64 n252, Value.slice p253 k254 k255, Value.int IntKind.i64 n256], Value.int IntKind.i64 n257])) ∧
            LetA (Obj.cells #[Value.int IntKind.i64 (0 : Int), Value.slice none (0 : Nat) (0 : Nat), Value.int IntKind.i64 (0 : Int)] (32 : Nat)) w251 fun b258 w259 =>
            (
             WrRow w259 { block := b258, off := (0 : Nat) } (0 : Nat) [Value.int IntKind.i64 n252, Value.slice p253 k254 k255, Value.int IntKind.i64 n256]) ∧
            LetW (setRow w259 { block := b258, off := (0 : Nat) } (0 : Nat) [Value.int IntKind.i64 n252, Value.slice p253 k254 k255, Value.int IntKind.i64 n256]) fun w260 =>
            ∃ n261 : Int,
            ∃ n262 : Int,
            ∃ n263 : Int,
            ∃ p264 : Option Addr,
            ∃ k265 : Nat,
            ∃ k266 : Nat,
            ∃ n267 : Int,
            ∃ n268 : Int,
            ∃ n269 : Int,
            ∃ n270 : Int,
            ∃ n271 : Int,
            ∃ n272 : Int,
            ∃ n273 : Int,
            ∃ n274 : Int,
            (
             Row w260 { block := b109, off := (0 : Nat) } (0 : Nat) [Value.int IntKind.i64 n261, Value.int IntKind.i64 n262, Value.int IntKind.i64 n263, Value.slice p264 k265 k266, Value.int IntKind.i64 n267, Value.int IntKind.i64 n268, Value.int IntKind.i64 n269, Value.int IntKind.i64 n270, Value.int IntKind.i64 n271, Value.int IntKind.i64 n272, Value.int IntKind.i64 n273, Value.int IntKind.i64 n274]) ∧
            Ca Try.prog (18 : Nat) #[Value.agg #[Value.int IntKind.i64 n261, Value.int IntKind.i64 n262, Value.int IntKind.i64 n263, Value.slice p264 k265 k266, Value.int IntKind.i64 n267, Value.int IntKind.i64 n268, Value.int IntKind.i64 n269, Value.int IntKind.i64 n270, Value.int IntKind.i64 n271, Value.int IntKind.i64 n272, Value.int IntKind.i64 n273, Value.int IntKind.i64 n274]] w260 fun e275 w276 =>
            ∃ n277 : Int,
            ∃ p278 : Option Addr,
            ∃ k279 : Nat,
            ∃ k280 : Nat,
            ∃ n281 : Int,
            ∃ n282 : Int,
            (
             e275 = Ending.returned (Value.tuple #[Value.agg #[Value.int IntKind.i64 n277, Value.slice p278 k279 k280, Value.int IntKind.i64 n281], Value.int IntKind.i64 n282])) ∧
            LetA (Obj.cells #[Value.int IntKind.i64 (0 : Int), Value.slice none (0 : Nat) (0 : Nat), Value.int IntKind.i64 (0 : Int)] (32 : Nat)) w276 fun b283 w284 =>
            (
             WrRow w284 { block := b283, off := (0 : Nat) } (0 : Nat) [Value.int IntKind.i64 n277, Value.slice p278 k279 k280, Value.int IntKind.i64 n281]) ∧
            LetW (setRow w284 { block := b283, off := (0 : Nat) } (0 : Nat) [Value.int IntKind.i64 n277, Value.slice p278 k279 k280, Value.int IntKind.i64 n281]) fun w285 =>
            ∃ n286 : Int,
            ∃ n287 : Int,
            ∃ n288 : Int,
            ∃ p289 : Option Addr,
            ∃ k290 : Nat,
            ∃ k291 : Nat,
            ∃ n292 : Int,
            ∃ n293 : Int,
            ∃ n294 : Int,
            ∃ n295 : Int,
            ∃ n296 : Int,
            ∃ n297 : Int,
            ∃ n298 : Int,
            ∃ n299 : Int,
            (
             Row w285 { block := b111, off := (0 : Nat) } (0 : Nat) [Value.int IntKind.i64 n286, Value.int IntKind.i64 n287, Value.int IntKind.i64 n288, Value.slice p289 k290 k291, Value.int IntKind.i64 n292, Value.int IntKind.i64 n293, Value.int IntKind.i64 n294, Value.int IntKind.i64 n295, Value.int IntKind.i64 n296, Value.int IntKind.i64 n297, Value.int IntKind.i64 n298, Value.int IntKind.i64 n299]) ∧
            Ca Try.prog (19 : Nat) #[Value.agg #[Value.int IntKind.i64 n286, Value.int IntKind.i64 n287, Value.int IntKind.i64 n288, Value.slice p289 k290 k291, Value.int IntKind.i64 n292, Value.int IntKind.i64 n293, Value.int IntKind.i64 n294, Value.int IntKind.i64 n295, Value.int IntKind.i64 n296, Value.int IntKind.i64 n297, Value.int IntKind.i64 n298, Value.int IntKind.i64 n299]] w285 fun e300 w301 =>
            ∃ n302 : Int,
            ∃ p303 : Option Addr,
            ∃ k304 : Nat,
            ∃ k305 : Nat,
            ∃ n306 : Int,
            ∃ n307 : Int,
            (
             e300 = Ending.returned (Value.tuple #[Value.agg #[Value.int IntKind.i64 n302, Value.slice p303 k304 k305, Value.int IntKind.i64 n306], Value.int IntKind.i64 n307])) ∧
            LetA (Obj.cells #[Value.int IntKind.i64 (0 : Int), Value.slice none (0 : Nat) (0 : Nat), Value.int IntKind.i64 (0 : Int)] (32 : Nat)) w301 fun b308 w309 =>
            (
             WrRow w309 { block := b308, off := (0 : Nat) } (0 : Nat) [Value.int IntKind.i64 n302, Value.slice p303 k304 k305, Value.int IntKind.i64 n306]) ∧
            LetW (setRow w309 { block := b308, off := (0 : Nat) } (0 : Nat) [Value.int IntKind.i64 n302, Value.slice p303 k304 k305, Value.int IntKind.i64 n306]) fun w310 =>
            ∃ n311 : Int,
            ∃ p312 : Option Addr,
            ∃ k313 : Nat,
            ∃ k314 : Nat,
            ∃ n315 : Int,
            (
             Row w310 { block := b233, off := (0 : Nat) } (0 : Nat) [Value.int IntKind.i64 n311, Value.slice p312 k313 k314, Value.int IntKind.i64 n315]) ∧
            ∃ n316 : Int,
            ∃ p317 : Option Addr,
            ∃ k318 : Nat,
            ∃ k319 : Nat,
            ∃ n320 : Int,
            (
             Row w310 { block := b258, off := (0 : Nat) } (0 : Nat) [Value.int IntKind.i64 n316, Value.slice p317 k318 k319, Value.int IntKind.i64 n320]) ∧
            Ca Try.prog (20 : Nat) #[Value.agg #[Value.int IntKind.i64 n311, Value.slice p312 k313 k314, Value.int IntKind.i64 n315], Value.agg #[Value.int IntKind.i64 n316, Value.slice p317 k318 k319, Value.int IntKind.i64 n320]] w310 fun e321 w322 =>
            ∃ b323 : Bool,
            (
             e321 = Ending.returned (Value.bool b323)) ∧
            Br (b323)
             (
              Br (n232 == n257)
               (
                ∃ n324 : Int,
                ∃ p325 : Option Addr,
                ∃ k326 : Nat,
                ∃ k327 : Nat,
                ∃ n328 : Int,
                (
                 Row w322 { block := b283, off := (0 : Nat) } (0 : Nat) [Value.int IntKind.i64 n324, Value.slice p325 k326 k327, Value.int IntKind.i64 n328]) ∧
                ∃ n329 : Int,
                ∃ p330 : Option Addr,
                ∃ k331 : Nat,
                ∃ k332 : Nat,
                ∃ n333 : Int,
                (
                 Row w322 { block := b308, off := (0 : Nat) } (0 : Nat) [Value.int IntKind.i64 n329, Value.slice p330 k331 k332, Value.int IntKind.i64 n333]) ∧
                Ca Try.prog (20 : Nat) #[Value.agg #[Value.int IntKind.i64 n324, Value.slice p325 k326 k327, Value.int IntKind.i64 n328], Value.agg #[Value.int IntKind.i64 n329, Value.slice p330 k331 k332, Value.int IntKind.i64 n333]] w322 fun e334 w335 =>
                ∃ b336 : Bool,
                (
                 e334 = Ending.returned (Value.bool b336)) ∧
                Br (b336)
                 (
                  Br (n282 == n307)
                   (
                    Ca Try.prog (12 : Nat) #[] w335 fun e337 w338 =>
                    ∃ b339 : Bool,
                    (
                     e337 = Ending.returned (Value.bool b339)) ∧
                    R (Ending.returned (Value.bool b339)) w338)
                   (
                    R (Ending.returned (Value.bool false)) w335))
                 (
                  R (Ending.returned (Value.bool false)) w335))
               (
                R (Ending.returned (Value.bool false)) w322))
             (
              R (Ending.returned (Value.bool false)) w322))))) ∧
     LetA (Obj.cells #[Value.int IntKind.i64 (0 : Int), Value.int IntKind.i64 (0 : Int), Value.int IntKind.i64 (0 : Int), Value.slice none (0 : Nat) (0 : Nat), Value.int IntKind.i64 (0 : Int), Value.int IntKind.i64 (0 : Int), Value.int IntKind.i64 (0 : Int), Value.int IntKind.i64 (0 : Int), Value.int IntKind.i64 (0 : Int), Value.int IntKind.i64 (0 : Int), Value.int IntKind.i64 (0 : Int), Value.int IntKind.i64 (0 : Int)] (24 : Nat)) w94 fun b340 w341 =>
     LetA (Obj.cells #[Value.int IntKind.i64 (0 : Int), Value.int IntKind.i64 (0 : Int), Value.int IntKind.i64 (0 : Int), Value.slice none (0 : Nat) (0 : Nat), Value.int IntKind.i64 (0 : Int), Value.int IntKind.i64 (0 : Int), Value.int IntKind.i64 (0 : Int), Value.int IntKind.i64 (0 : Int), Value.int IntKind.i64 (0 : Int), Value.int IntKind.i64 (0 : Int), Value.int IntKind.i64 (0 : Int), Value.int IntKind.i64 (0 : Int)] (24 : Nat)) w341 fun b342 w343 =>
     (
      WrRow w343 { block := b342, off := (0 : Nat) } (0 : Nat) [Value.int IntKind.i64 n79, Value.int IntKind.i64 n80, Value.int IntKind.i64 n81, Value.slice p82 k83 k84, Value.int IntKind.i64 n85, Value.int IntKind.i64 n86, Value.int IntKind.i64 n87, Value.int IntKind.i64 n88, Value.int IntKind.i64 n89, Value.int IntKind.i64 n90, Value.int IntKind.i64 n91, Value.int IntKind.i64 n92]) ∧
     LetW (setRow w343 { block := b342, off := (0 : Nat) } (0 : Nat) [Value.int IntKind.i64 n79, Value.int IntKind.i64 n80, Value.int IntKind.i64 n81, Value.slice p82 k83 k84, Value.int IntKind.i64 n85, Value.int IntKind.i64 n86, Value.int IntKind.i64 n87, Value.int IntKind.i64 n88, Value.int IntKind.i64 n89, Value.int IntKind.i64 n90, Value.int IntKind.i64 n91, Value.int IntKind.i64 n92]) fun w344 =>
     (
      WrRow w344 { block := b340, off := (0 : Nat) } (0 : Nat) [Value.int IntKind.i64 n95, Value.int IntKind.i64 n96, Value.int IntKind.i64 n97, Value.slice p98 k99 k100, Value.int IntKind.i64 n101, Value.int IntKind.i64 n102, Value.int IntKind.i64 n103, Value.int IntKind.i64 n104, Value.int IntKind.i64 n105, Value.int IntKind.i64 n106, Value.int IntKind.i64 n107, Value.int IntKind.i64 n108]) ∧
     LetW (setRow w344 { block := b340, off := (0 : Nat) } (0 : Nat) [Value.int IntKind.i64 n95, Value.int IntKind.i64 n96, Value.int IntKind.i64 n97, Value.slice p98 k99 k100, Value.int IntKind.i64 n101, Value.int IntKind.i64 n102, Value.int IntKind.i64 n103, Value.int IntKind.i64 n104, Value.int IntKind.i64 n105, Value.int IntKind.i64 n106, Value.int IntKind.i64 n107, Value.int IntKind.i64 n108]) fun w345 =>
     ∃ n346 : Int,
     ∃ n347 : Int,
     ∃ n348 : Int,
     ∃ p349 : Option Addr,
     ∃ k350 : Nat,
     ∃ k351 : Nat,
     ∃ n352 : Int,
     ∃ n353 : Int,
     ∃ n354 : Int,
     ∃ n355 : Int,
     ∃ n356 : Int,
     ∃ n357 : Int,
     ∃ n358 : Int,
     ∃ n359 : Int,
     (
      Row w345 { block := b342, off := (0 : Nat) } (0 : Nat) [Value.int IntKind.i64 n346, Value.int IntKind.i64 n347, Value.int IntKind.i64 n348, Value.slice p349 k350 k351, Value.int IntKind.i64 n352, Value.int IntKind.i64 n353, Value.int IntKind.i64 n354, Value.int IntKind.i64 n355, Value.int IntKind.i64 n356, Value.int IntKind.i64 n357, Value.int IntKind.i64 n358, Value.int IntKind.i64 n359]) ∧
     ∃ n360 : Int,
     ∃ n361 : Int,
     ∃ n362 : Int,
     ∃ p363 : Option Addr,
     ∃ k364 : Nat,
     ∃ k365 : Nat,
     ∃ n366 : Int,
     ∃ n367 : Int,
     ∃ n368 : Int,
     ∃ n369 : Int,
     ∃ n370 : Int,
     ∃ n371 : Int,
     ∃ n372 : Int,
     ∃ n373 : Int,
     (
      Row w345 { block := b340, off := (0 : Nat) } (0 : Nat) [Value.int IntKind.i64 n360, Value.int IntKind.i64 n361, Value.int IntKind.i64 n362, Value.slice p363 k364 k365, Value.int IntKind.i64 n366, Value.int IntKind.i64 n367, Value.int IntKind.i64 n368, Value.int IntKind.i64 n369, Value.int IntKind.i64 n370, Value.int IntKind.i64 n371, Value.int IntKind.i64 n372, Value.int IntKind.i64 n373]) ∧
     Ca Try.prog (15 : Nat) #[Value.agg #[Value.int IntKind.i64 n346, Value.int IntKind.i64 n347, Value.int IntKind.i64 n348, Value.slice p349 k350 k351, Value.int IntKind.i64 n352, Value.int IntKind.i64 n353, Value.int IntKind.i64 n354, Value.int IntKind.i64 n355, Value.int IntKind.i64 n356, Value.int IntKind.i64 n357, Value.int IntKind.i64 n358, Value.int IntKind.i64 n359], Value.agg #[Value.int IntKind.i64 n360, Value.int IntKind.i64 n361, Value.int IntKind.i64 n362, Value.slice p363 k364 k365, Value.int IntKind.i64 n366, Value.int IntKind.i64 n367, Value.int IntKind.i64 n368, Value.int IntKind.i64 n369, Value.int IntKind.i64 n370, Value.int IntKind.i64 n371, Value.int IntKind.i64 n372, Value.int IntKind.i64 n373]] w345 fun e374 w375 =>
     ∃ b376 : Bool,
     (
      e374 = Ending.returned (Value.bool b376)) ∧
     Br (!b376)
      (
       R (Ending.returned (Value.bool false)) w375)
      (
       ∃ n377 : Int,
       ∃ n378 : Int,
       ∃ n379 : Int,
       ∃ p380 : Option Addr,
       ∃ k381 : Nat,
       ∃ k382 : Nat,
       ∃ n383 : Int,
       ∃ n384 : Int,
       ∃ n385 : Int,
       ∃ n386 : Int,
       ∃ n387 : Int,
       ∃ n388 : Int,
       ∃ n389 : Int,
       ∃ n390 : Int,
       (
        Row w375 { block := b37, off := (0 : Nat) } (0 : Nat) [Value.int IntKind.i64 n377, Value.int IntKind.i64 n378, Value.int IntKind.i64 n379, Value.slice p380 k381 k382, Value.int IntKind.i64 n383, Value.int IntKind.i64 n384, Value.int IntKind.i64 n385, Value.int IntKind.i64 n386, Value.int IntKind.i64 n387, Value.int IntKind.i64 n388, Value.int IntKind.i64 n389, Value.int IntKind.i64 n390]) ∧
       ∃ n391 : Int,
       ∃ n392 : Int,
       ∃ n393 : Int,
       ∃ p394 : Option Addr,
       ∃ k395 : Nat,
       ∃ k396 : Nat,
       ∃ n397 : Int,
       ∃ n398 : Int,
       ∃ n399 : Int,
       ∃ n400 : Int,
       ∃ n401 : Int,
       ∃ n402 : Int,
       ∃ n403 : Int,
       ∃ n404 : Int,
       (
        Row w375 { block := b15, off := (0 : Nat) } (0 : Nat) [Value.int IntKind.i64 n391, Value.int IntKind.i64 n392, Value.int IntKind.i64 n393, Value.slice p394 k395 k396, Value.int IntKind.i64 n397, Value.int IntKind.i64 n398, Value.int IntKind.i64 n399, Value.int IntKind.i64 n400, Value.int IntKind.i64 n401, Value.int IntKind.i64 n402, Value.int IntKind.i64 n403, Value.int IntKind.i64 n404]) ∧
       Ca Try.prog (15 : Nat) #[Value.agg #[Value.int IntKind.i64 n377, Value.int IntKind.i64 n378, Value.int IntKind.i64 n379, Value.slice p380 k381 k382, Value.int IntKind.i64 n383, Value.int IntKind.i64 n384, Value.int IntKind.i64 n385, Value.int IntKind.i64 n386, Value.int IntKind.i64 n387, Value.int IntKind.i64 n388, Value.int IntKind.i64 n389, Value.int IntKind.i64 n390], Value.agg #[Value.int IntKind.i64 n391, Value.int IntKind.i64 n392, Value.int IntKind.i64 n393, Value.slice p394 k395 k396, Value.int IntKind.i64 n397, Value.int IntKind.i64 n398, Value.int IntKind.i64 n399, Value.int IntKind.i64 n400, Value.int IntKind.i64 n401, Value.int IntKind.i64 n402, Value.int IntKind.i64 n403, Value.int IntKind.i64 n404]] w375 fun e405 w406 =>
       ∃ b407 : Bool,
       (
        e405 = Ending.returned (Value.bool b407)) ∧
       Br (!b407)
        (
         R (Ending.returned (Value.bool false)) w406)
        (
         ∃ n408 : Int,
         ∃ n409 : Int,
         ∃ n410 : Int,
         ∃ p411 : Option Addr,
         ∃ k412 : Nat,
         ∃ k413 : Nat,
         ∃ n414 : Int,
         ∃ n415 : Int,
         ∃ n416 : Int,
         ∃ n417 : Int,
         ∃ n418 : Int,
         ∃ n419 : Int,
         ∃ n420 : Int,
         ∃ n421 : Int,
         (
          Row w406 { block := b37, off := (0 : Nat) } (0 : Nat) [Value.int IntKind.i64 n408, Value.int IntKind.i64 n409, Value.int IntKind.i64 n410, Value.slice p411 k412 k413, Value.int IntKind.i64 n414, Value.int IntKind.i64 n415, Value.int IntKind.i64 n416, Value.int IntKind.i64 n417, Value.int IntKind.i64 n418, Value.int IntKind.i64 n419, Value.int IntKind.i64 n420, Value.int IntKind.i64 n421]) ∧
         ∃ n422 : Int,
         ∃ n423 : Int,
         ∃ n424 : Int,
         ∃ p425 : Option Addr,
         ∃ k426 : Nat,
         ∃ k427 : Nat,
         ∃ n428 : Int,
         ∃ n429 : Int,
         ∃ n430 : Int,
         ∃ n431 : Int,
         ∃ n432 : Int,
         ∃ n433 : Int,
         ∃ n434 : Int,
         ∃ n435 : Int,
         (
          Row w406 { block := b15, off := (0 : Nat) } (0 : Nat) [Value.int IntKind.i64 n422, Value.int IntKind.i64 n423, Value.int IntKind.i64 n424, Value.slice p425 k426 k427, Value.int IntKind.i64 n428, Value.int IntKind.i64 n429, Value.int IntKind.i64 n430, Value.int IntKind.i64 n431, Value.int IntKind.i64 n432, Value.int IntKind.i64 n433, Value.int IntKind.i64 n434, Value.int IntKind.i64 n435]) ∧
         Ca Try.prog (16 : Nat) #[Value.agg #[Value.int IntKind.i64 n408, Value.int IntKind.i64 n409, Value.int IntKind.i64 n410, Value.slice p411 k412 k413, Value.int IntKind.i64 n414, Value.int IntKind.i64 n415, Value.int IntKind.i64 n416, Value.int IntKind.i64 n417, Value.int IntKind.i64 n418, Value.int IntKind.i64 n419, Value.int IntKind.i64 n420, Value.int IntKind.i64 n421]] w406 fun e436 w437 =>
         ∃ n438 : Int,
         (
          e436 = Ending.returned (Value.int IntKind.i64 n438)) ∧
         (
          Row w437 { block := b15, off := (0 : Nat) } (0 : Nat) [Value.int IntKind.i64 n422, Value.int IntKind.i64 n423, Value.int IntKind.i64 n424, Value.slice p425 k426 k427, Value.int IntKind.i64 n428, Value.int IntKind.i64 n429, Value.int IntKind.i64 n430, Value.int IntKind.i64 n431, Value.int IntKind.i64 n432, Value.int IntKind.i64 n433, Value.int IntKind.i64 n434, Value.int IntKind.i64 n435]) ∧
         Ca Try.prog (17 : Nat) #[Value.agg #[Value.int IntKind.i64 n422, Value.int IntKind.i64 n423, Value.int IntKind.i64 n424, Value.slice p425 k426 k427, Value.int IntKind.i64 n428, Value.int IntKind.i64 n429, Value.int IntKind.i64 n430, Value.int IntKind.i64 n431, Value.int IntKind.i64 n432, Value.int IntKind.i64 n433, Value.int IntKind.i64 n434, Value.int IntKind.i64 n435]] w437 fun e439 w440 =>
         ∃ n441 : Int,
         (
          e439 = Ending.returned (Value.int IntKind.i64 n441)) ∧
         Br (n438 != n441)
          (
           R (Ending.returned (Value.bool false)) w440)
          (
           ∃ n442 : Int,
           ∃ n443 : Int,
           ∃ n444 : Int,
           ∃ p445 : Option Addr,
           ∃ k446 : Nat,
           ∃ k447 : Nat,
           ∃ n448 : Int,
           ∃ n449 : Int,
           ∃ n450 : Int,
           ∃ n451 : Int,
           ∃ n452 : Int,
           ∃ n453 : Int,
           ∃ n454 : Int,
           ∃ n455 : Int,
           (
            Row w440 { block := b37, off := (0 : Nat) } (0 : Nat) [Value.int IntKind.i64 n442, Value.int IntKind.i64 n443, Value.int IntKind.i64 n444, Value.slice p445 k446 k447, Value.int IntKind.i64 n448, Value.int IntKind.i64 n449, Value.int IntKind.i64 n450, Value.int IntKind.i64 n451, Value.int IntKind.i64 n452, Value.int IntKind.i64 n453, Value.int IntKind.i64 n454, Value.int IntKind.i64 n455]) ∧
           Ca Try.prog (18 : Nat) #[Value.agg #[Value.int IntKind.i64 n442, Value.int IntKind.i64 n443, Value.int IntKind.i64 n444, Value.slice p445 k446 k447, Value.int IntKind.i64 n448, Value.int IntKind.i64 n449, Value.int IntKind.i64 n450, Value.int IntKind.i64 n451, Value.int IntKind.i64 n452, Value.int IntKind.i64 n453, Value.int IntKind.i64 n454, Value.int IntKind.i64 n455]] w440 fun e456 w457 =>
           ∃ n458 : Int,
           ∃ p459 : Option Addr,
           ∃ k460 : Nat,
           ∃ k461 : Nat,
           ∃ n462 : Int,
           ∃ n463 : Int,
           (
            e456 = Ending.returned (Value.tuple #[Value.agg #[Value.int IntKind.i64 n458, Value.slice p459 k460 k461, Value.int IntKind.i64 n462], Value.int IntKind.i64 n463])) ∧
           LetA (Obj.cells #[Value.int IntKind.i64 (0 : Int), Value.slice none (0 : Nat) (0 : Nat), Value.int IntKind.i64 (0 : Int)] (32 : Nat)) w457 fun b464 w465 =>
           (
            WrRow w465 { block := b464, off := (0 : Nat) } (0 : Nat) [Value.int IntKind.i64 n458, Value.slice p459 k460 k461, Value.int IntKind.i64 n462]) ∧
           LetW (setRow w465 { block := b464, off := (0 : Nat) } (0 : Nat) [Value.int IntKind.i64 n458, Value.slice p459 k460 k461, Value.int IntKind.i64 n462]) fun w466 =>
           ∃ n467 : Int,
           ∃ n468 : Int,
           ∃ n469 : Int,
           ∃ p470 : Option Addr,
           ∃ k471 : Nat,
           ∃ k472 : Nat,
           ∃ n473 : Int,
           ∃ n474 : Int,
           ∃ n475 : Int,
           ∃ n476 : Int,
           ∃ n477 : Int,
           ∃ n478 : Int,
           ∃ n479 : Int,
           ∃ n480 : Int,
           (
            Row w466 { block := b15, off := (0 : Nat) } (0 : Nat) [Value.int IntKind.i64 n467, Value.int IntKind.i64 n468, Value.int IntKind.i64 n469, Value.slice p470 k471 k472, Value.int IntKind.i64 n473, Value.int IntKind.i64 n474, Value.int IntKind.i64 n475, Value.int IntKind.i64 n476, Value.int IntKind.i64 n477, Value.int IntKind.i64 n478, Value.int IntKind.i64 n479, Value.int IntKind.i64 n480]) ∧
           Ca Try.prog (19 : Nat) #[Value.agg #[Value.int IntKind.i64 n467, Value.int IntKind.i64 n468, Value.int IntKind.i64 n469, Value.slice p470 k471 k472, Value.int IntKind.i64 n473, Value.int IntKind.i64 n474, Value.int IntKind.i64 n475, Value.int IntKind.i64 n476, Value.int IntKind.i64 n477, Value.int IntKind.i64 n478, Value.int IntKind.i64 n479, Value.int IntKind.i64 n480]] w466 fun e481 w482 =>
           ∃ n483 : Int,
           ∃ p484 : Option Addr,
           ∃ k485 : Nat,
           ∃ k486 : Nat,
           ∃ n487 : Int,
           ∃ n488 : Int,
           (
            e481 = Ending.returned (Value.tuple #[Value.agg #[Value.int IntKind.i64 n483, Value.slice p484 k485 k486, Value.int IntKind.i64 n487], Value.int IntKind.i64 n488])) ∧
           LetA (Obj.cells #[Value.int IntKind.i64 (0 : Int), Value.slice none (0 : Nat) (0 : Nat), Value.int IntKind.i64 (0 : Int)] (32 : Nat)) w482 fun b489 w490 =>
           (
            WrRow w490 { block := b489, off := (0 : Nat) } (0 : Nat) [Value.int IntKind.i64 n483, Value.slice p484 k485 k486, Value.int IntKind.i64 n487]) ∧
           LetW (setRow w490 { block := b489, off := (0 : Nat) } (0 : Nat) [Value.int IntKind.i64 n483, Value.slice p484 k485 k486, Value.int IntKind.i64 n487]) fun w491 =>
           ∃ n492 : Int,
           ∃ n493 : Int,
           ∃ n494 : Int,
           ∃ p495 : Option Addr,
           ∃ k496 : Nat,
           ∃ k497 : Nat,
           ∃ n498 : Int,
           ∃ n499 : Int,
           ∃ n500 : Int,
           ∃ n501 : Int,
           ∃ n502 : Int,
           ∃ n503 : Int,
           ∃ n504 : Int,
           ∃ n505 : Int,
           (
            Row w491 { block := b342, off := (0 : Nat) } (0 : Nat) [Value.int IntKind.i64 n492, Value.int IntKind.i64 n493, Value.int IntKind.i64 n494, Value.slice p495 k496 k497, Value.int IntKind.i64 n498, Value.int IntKind.i64 n499, Value.int IntKind.i64 n500, Value.int IntKind.i64 n501, Value.int IntKind.i64 n502, Value.int IntKind.i64 n503, Value.int IntKind.i64 n504, Value.int IntKind.i64 n505]) ∧
           Ca Try.prog (18 : Nat) #[Value.agg #[Value.int IntKind.i64 n492, Value.int IntKind.i64 n493, Value.int IntKind.i64 n494, Value.slice p495 k496 k497, Value.int IntKind.i64 n498, Value.int IntKind.i64 n499, Value.int IntKind.i64 n500, Value.int IntKind.i64 n501, Value.int IntKind.i64 n502, Value.int IntKind.i64 n503, Value.int IntKind.i64 n504, Value.int IntKind.i64 n505]] w491 fun e506 w507 =>
           ∃ n508 : Int,
           ∃ p509 : Option Addr,
           ∃ k510 : Nat,
           ∃ k511 : Nat,
           ∃ n512 : Int,
           ∃ n513 : Int,
           (
            e506 = Ending.returned (Value.tuple #[Value.agg #[Value.int IntKind.i64 n508, Value.slice p509 k510 k511, Value.int IntKind.i64 n512], Value.int IntKind.i64 n513])) ∧
           LetA (Obj.cells #[Value.int IntKind.i64 (0 : Int), Value.slice none (0 : Nat) (0 : Nat), Value.int IntKind.i64 (0 : Int)] (32 : Nat)) w507 fun b514 w515 =>
           (
            WrRow w515 { block := b514, off := (0 : Nat) } (0 : Nat) [Value.int IntKind.i64 n508, Value.slice p509 k510 k511, Value.int IntKind.i64 n512]) ∧
           LetW (setRow w515 { block := b514, off := (0 : Nat) } (0 : Nat) [Value.int IntKind.i64 n508, Value.slice p509 k510 k511, Value.int IntKind.i64 n512]) fun w516 =>
           ∃ n517 : Int,
           ∃ n518 : Int,
           ∃ n519 : Int,
           ∃ p520 : Option Addr,
           ∃ k521 : Nat,
           ∃ k522 : Nat,
           ∃ n523 : Int,
           ∃ n524 : Int,
           ∃ n525 : Int,
           ∃ n526 : Int,
           ∃ n527 : Int,
           ∃ n528 : Int,
           ∃ n529 : Int,
           ∃ n530 : Int,
           (
            Row w516 { block := b340, off := (0 : Nat) } (0 : Nat) [Value.int IntKind.i64 n517, Value.int IntKind.i64 n518, Value.int IntKind.i64 n519, Value.slice p520 k521 k522, Value.int IntKind.i64 n523, Value.int IntKind.i64 n524, Value.int IntKind.i64 n525, Value.int IntKind.i64 n526, Value.int IntKind.i64 n527, Value.int IntKind.i64 n528, Value.int IntKind.i64 n529, Value.int IntKind.i64 n530]) ∧
           Ca Try.prog (19 : Nat) #[Value.agg #[Value.int IntKind.i64 n517, Value.int IntKind.i64 n518, Value.int IntKind.i64 n519, Value.slice p520 k521 k522, Value.int IntKind.i64 n523, Value.int IntKind.i64 n524, Value.int IntKind.i64 n525, Value.int IntKind.i64 n526, Value.int IntKind.i64 n527, Value.int IntKind.i64 n528, Value.int IntKind.i64 n529, Value.int IntKind.i64 n530]] w516 fun e531 w532 =>
           ∃ n533 : Int,
           ∃ p534 : Option Addr,
           ∃ k535 : Nat,
           ∃ k536 : Nat,
           ∃ n537 : Int,
           ∃ n538 : Int,
           (
            e531 = Ending.returned (Value.tuple #[Value.agg #[Value.int IntKind.i64 n533, Value.slice p534 k535 k536, Value.int IntKind.i64 n537], Value.int IntKind.i64 n538])) ∧
           LetA (Obj.cells #[Value.int IntKind.i64 (0 : Int), Value.slice none (0 : Nat) (0 : Nat), Value.int IntKind.i64 (0 : Int)] (32 : Nat)) w532 fun b539 w540 =>
           (
            WrRow w540 { block := b539, off := (0 : Nat) } (0 : Nat) [Value.int IntKind.i64 n533, Value.slice p534 k535 k536, Value.int IntKind.i64 n537]) ∧
           LetW (setRow w540 { block := b539, off := (0 : Nat) } (0 : Nat) [Value.int IntKind.i64 n533, Value.slice p534 k535 k536, Value.int IntKind.i64 n537]) fun w541 =>
           ∃ n542 : Int,
           ∃ p543 : Option Addr,
           ∃ k544 : Nat,
           ∃ k545 : Nat,
           ∃ n546 : Int,
           (
            Row w541 { block := b464, off := (0 : Nat) } (0 : Nat) [Value.int IntKind.i64 n542, Value.slice p543 k544 k545, Value.int IntKind.i64 n546]) ∧
           ∃ n547 : Int,
           ∃ p548 : Option Addr,
           ∃ k549 : Nat,
           ∃ k550 : Nat,
           ∃ n551 : Int,
           (
            Row w541 { block := b489, off := (0 : Nat) } (0 : Nat) [Value.int IntKind.i64 n547, Value.slice p548 k549 k550, Value.int IntKind.i64 n551]) ∧
           Ca Try.prog (20 : Nat) #[Value.agg #[Value.int IntKind.i64 n542, Value.slice p543 k544 k545, Value.int IntKind.i64 n546], Value.agg #[Value.int IntKind.i64 n547, Value.slice p548 k549 k550, Value.int IntKind.i64 n551]] w541 fun e552 w553 =>
           ∃ b554 : Bool,
           (
            e552 = Ending.returned (Value.bool b554)) ∧
           Br (b554)
            (
             Br (n463 == n488)
              (
               ∃ n555 : Int,
               ∃ p556 : Option Addr,
               ∃ k557 : Nat,
               ∃ k558 : Nat,
               ∃ n559 : Int,
               (
                Row w553 { block := b514, off := (0 : Nat) } (0 : Nat) [Value.int IntKind.i64 n555, Value.slice p556 k557 k558, Value.int IntKind.i64 n559]) ∧
               ∃ n560 : Int,
               ∃ p561 : Option Addr,
               ∃ k562 : Nat,
               ∃ k563 : Nat,
               ∃ n564 : Int,
               (
                Row w553 { block := b539, off := (0 : Nat) } (0 : Nat) [Value.int IntKind.i64 n560, Value.slice p561 k562 k563, Value.int IntKind.i64 n564]) ∧
               Ca Try.prog (20 : Nat) #[Value.agg #[Value.int IntKind.i64 n555, Value.slice p556 k557 k558, Value.int IntKind.i64 n559], Value.agg #[Value.int IntKind.i64 n560, Value.slice p561 k562 k563, Value.int IntKind.i64 n564]] w553 fun e565 w566 =>
               ∃ b567 : Bool,
               (
                e565 = Ending.returned (Value.bool b567)) ∧
               Br (b567)
                (
                 Br (n513 == n538)
                  (
                   Ca Try.prog (12 : Nat) #[] w566 fun e568 w569 =>
                   ∃ b570 : Bool,
                   (
                    e568 = Ending.returned (Value.bool b570)) ∧
                   R (Ending.returned (Value.bool b570)) w569)
                  (
                   R (Ending.returned (Value.bool false)) w566))
                (
                 R (Ending.returned (Value.bool false)) w566))
              (
               R (Ending.returned (Value.bool false)) w553))
            (
             R (Ending.returned (Value.bool false)) w553))))) ∧
    (
     LetA (Obj.cells #[Value.int IntKind.i64 (0 : Int), Value.int IntKind.i64 (0 : Int), Value.int IntKind.i64 (0 : Int), Value.slice none (0 : Nat) (0 : Nat), Value.int IntKind.i64 (0 : Int), Value.int IntKind.i64 (0 : Int), Value.int IntKind.i64 (0 : Int), Value.int IntKind.i64 (0 : Int), Value.int IntKind.i64 (0 : Int), Value.int IntKind.i64 (0 : Int), Value.int IntKind.i64 (0 : Int), Value.int IntKind.i64 (0 : Int)] (24 : Nat)) w78 fun b571 w572 =>
     (
      Row w572 { block := b15, off := (0 : Nat) } (0 : Nat) [Value.int IntKind.i64 n63, Value.int IntKind.i64 n64, Value.int IntKind.i64 n65, Value.slice p66 k67 k68, Value.int IntKind.i64 n69, Value.int IntKind.i64 n70, Value.int IntKind.i64 n71, Value.int IntKind.i64 n72, Value.int IntKind.i64 n73, Value.int IntKind.i64 n74, Value.int IntKind.i64 n75, Value.int IntKind.i64 n76]) ∧
     (
      Ca Try.prog (14 : Nat) #[Value.agg #[Value.int IntKind.i64 n63, Value.int IntKind.i64 n64, Value.int IntKind.i64 n65, Value.slice p66 k67 k68, Value.int IntKind.i64 n69, Value.int IntKind.i64 n70, Value.int IntKind.i64 n71, Value.int IntKind.i64 n72, Value.int IntKind.i64 n73, Value.int IntKind.i64 n74, Value.int IntKind.i64 n75, Value.int IntKind.i64 n76]] w572 fun e573 w574 =>
      ∃ n575 : Int,
      ∃ n576 : Int,
      ∃ n577 : Int,
      ∃ p578 : Option Addr,
      ∃ k579 : Nat,
      ∃ k580 : Nat,
      ∃ n581 : Int,
      ∃ n582 : Int,
      ∃ n583 : Int,
      ∃ n584 : Int,
      ∃ n585 : Int,
      ∃ n586 : Int,
      ∃ n587 : Int,
      ∃ n588 : Int,
      (
       e573 = Ending.returned (Value.agg #[Value.int IntKind.i64 n575, Value.int IntKind.i64 n576, Value.int IntKind.i64 n577, Value.slice p578 k579 k580, Value.int IntKind.i64 n581, Value.int IntKind.i64 n582, Value.int IntKind.i64 n583, Value.int IntKind.i64 n584, Value.int IntKind.i64 n585, Value.int IntKind.i64 n586, Value.int IntKind.i64 n587, Value.int IntKind.i64 n588])) ∧
      LetA (Obj.cells #[Value.int IntKind.i64 (0 : Int), Value.int IntKind.i64 (0 : Int), Value.int IntKind.i64 (0 : Int), Value.slice none (0 : Nat) (0 : Nat), Value.int IntKind.i64 (0 : Int), Value.int IntKind.i64 (0 : Int), Value.int IntKind.i64 (0 : Int), Value.int IntKind.i64 (0 : Int), Value.int IntKind.i64 (0 : Int), Value.int IntKind.i64 (0 : Int), Value.int IntKind.i64 (0 : Int), Value.int IntKind.i64 (0 : Int)] (24 : Nat)) w574 fun b589 w590 =>
      (
       WrRow w590 { block := b571, off := (0 : Nat) } (0 : Nat) [Value.int IntKind.i64 n79, Value.int IntKind.i64 n80, Value.int IntKind.i64 n81, Value.slice p82 k83 k84, Value.int IntKind.i64 n85, Value.int IntKind.i64 n86, Value.int IntKind.i64 n87, Value.int IntKind.i64 n88, Value.int IntKind.i64 n89, Value.int IntKind.i64 n90, Value.int IntKind.i64 n91, Value.int IntKind.i64 n92]) ∧
      LetW (setRow w590 { block := b571, off := (0 : Nat) } (0 : Nat) [Value.int IntKind.i64 n79, Value.int IntKind.i64 n80, Value.int IntKind.i64 n81, Value.slice p82 k83 k84, Value.int IntKind.i64 n85, Value.int IntKind.i64 n86, Value.int IntKind.i64 n87, Value.int IntKind.i64 n88, Value.int IntKind.i64 n89, Value.int IntKind.i64 n90, Value.int IntKind.i64 n91, Value.int IntKind.i64 n92]) fun w591 =>
      (
       WrRow w591 { block := b589, off := (0 : Nat) } (0 : Nat) [Value.int IntKind.i64 n575, Value.int IntKind.i64 n576, Value.int IntKind.i64 n577, Value.slice p578 k579 k580, Value.int IntKind.i64 n581, Value.int IntKind.i64 n582, Value.int IntKind.i64 n583, Value.int IntKind.i64 n584, Value.int IntKind.i64 n585, Value.int IntKind.i64 n586, Value.int IntKind.i64 n587, Value.int IntKind.i64 n588]) ∧
      LetW (setRow w591 { block := b589, off := (0 : Nat) } (0 : Nat) [Value.int IntKind.i64 n575, Value.int IntKind.i64 n576, Value.int IntKind.i64 n577, Value.slice p578 k579 k580, Value.int IntKind.i64 n581, Value.int IntKind.i64 n582, Value.int IntKind.i64 n583, Value.int IntKind.i64 n584, Value.int IntKind.i64 n585, Value.int IntKind.i64 n586, Value.int IntKind.i64 n587, Value.int IntKind.i64 n588]) fun w592 =>
      ∃ n593 : Int,
      ∃ n594 : Int,
      ∃ n595 : Int,
      ∃ p596 : Option Addr,
      ∃ k597 : Nat,
      ∃ k598 : Nat,
      ∃ n599 : Int,
      ∃ n600 : Int,
      ∃ n601 : Int,
      ∃ n602 : Int,
      ∃ n603 : Int,
      ∃ n604 : Int,
      ∃ n605 : Int,
      ∃ n606 : Int,
      (
       Row w592 { block := b571, off := (0 : Nat) } (0 : Nat) [Value.int IntKind.i64 n593, Value.int IntKind.i64 n594, Value.int IntKind.i64 n595, Value.slice p596 k597 k598, Value.int IntKind.i64 n599, Value.int IntKind.i64 n600, Value.int IntKind.i64 n601, Value.int IntKind.i64 n602, Value.int IntKind.i64 n603, Value.int IntKind.i64 n604, Value.int IntKind.i64 n605, Value.int IntKind.i64 n606]) ∧
      ∃ n607 : Int,
      ∃ n608 : Int,
      ∃ n609 : Int,
      ∃ p610 : Option Addr,
      ∃ k611 : Nat,
      ∃ k612 : Nat,
      ∃ n613 : Int,
      ∃ n614 : Int,
      ∃ n615 : Int,
      ∃ n616 : Int,
      ∃ n617 : Int,
      ∃ n618 : Int,
      ∃ n619 : Int,
      ∃ n620 : Int,
      (
       Row w592 { block := b589, off := (0 : Nat) } (0 : Nat) [Value.int IntKind.i64 n607, Value.int IntKind.i64 n608, Value.int IntKind.i64 n609, Value.slice p610 k611 k612, Value.int IntKind.i64 n613, Value.int IntKind.i64 n614, Value.int IntKind.i64 n615, Value.int IntKind.i64 n616, Value.int IntKind.i64 n617, Value.int IntKind.i64 n618, Value.int IntKind.i64 n619, Value.int IntKind.i64 n620]) ∧
      Ca Try.prog (15 : Nat) #[Value.agg #[Value.int IntKind.i64 n593, Value.int IntKind.i64 n594, Value.int IntKind.i64 n595, Value.slice p596 k597 k598, Value.int IntKind.i64 n599, Value.int IntKind.i64 n600, Value.int IntKind.i64 n601, Value.int IntKind.i64 n602, Value.int IntKind.i64 n603, Value.int IntKind.i64 n604, Value.int IntKind.i64 n605, Value.int IntKind.i64 n606], Value.agg #[Value.int IntKind.i64 n607, Value.int IntKind.i64 n608, Value.int IntKind.i64 n609, Value.slice p610 k611 k612, Value.int IntKind.i64 n613, Value.int IntKind.i64 n614, Value.int IntKind.i64 n615, Value.int IntKind.i64 n616, Value.int IntKind.i64 n617, Value.int IntKind.i64 n618, Value.int IntKind.i64 n619, Value.int IntKind.i64 n620]] w592 fun e621 w622 =>
      ∃ b623 : Bool,
      (
       e621 = Ending.returned (Value.bool b623)) ∧
      Br (!b623)
       (
        R (Ending.returned (Value.bool false)) w622)
       (
        ∃ n624 : Int,
        ∃ n625 : Int,
        ∃ n626 : Int,
        ∃ p627 : Option Addr,
        ∃ k628 : Nat,
        ∃ k629 : Nat,
        ∃ n630 : Int,
        ∃ n631 : Int,
        ∃ n632 : Int,
        ∃ n633 : Int,
        ∃ n634 : Int,
        ∃ n635 : Int,
        ∃ n636 : Int,
        ∃ n637 : Int,
        (
         Row w622 { block := b37, off := (0 : Nat) } (0 : Nat) [Value.int IntKind.i64 n624, Value.int IntKind.i64 n625, Value.int IntKind.i64 n626, Value.slice p627 k628 k629, Value.int IntKind.i64 n630, Value.int IntKind.i64 n631, Value.int IntKind.i64 n632, Value.int IntKind.i64 n633, Value.int IntKind.i64 n634, Value.int IntKind.i64 n635, Value.int IntKind.i64 n636, Value.int IntKind.i64 n637]) ∧
        ∃ n638 : Int,
        ∃ n639 : Int,
        ∃ n640 : Int,
        ∃ p641 : Option Addr,
        ∃ k642 : Nat,
        ∃ k643 : Nat,
        ∃ n644 : Int,
        ∃ n645 : Int,
        ∃ n646 : Int,
        ∃ n647 : Int,
        ∃ n648 : Int,
        ∃ n649 : Int,
        ∃ n650 : Int,
        ∃ n651 : Int,
        (
         Row w622 { block := b15, off := (0 : Nat) } (0 : Nat) [Value.int IntKind.i64 n638, Value.int IntKind.i64 n639, Value.int IntKind.i64 n640, Value.slice p641 k642 k643, Value.int IntKind.i64 n644, Value.int IntKind.i64 n645, Value.int IntKind.i64 n646, Value.int IntKind.i64 n647, Value.int IntKind.i64 n648, Value.int IntKind.i64 n649, Value.int IntKind.i64 n650, Value.int IntKind.i64 n651]) ∧
        Ca Try.prog (15 : Nat) #[Value.agg #[Value.int IntKind.i64 n624, Value.int IntKind.i64 n625, Value.int IntKind.i64 n626, Value.slice p627 k628 k629, Value.int IntKind.i64 n630, Value.int IntKind.i64 n631, Value.int IntKind.i64 n632, Value.int IntKind.i64 n633, Value.int IntKind.i64 n634, Value.int IntKind.i64 n635, Value.int IntKind.i64 n636, Value.int IntKind.i64 n637], Value.agg #[Value.int IntKind.i64 n638, Value.int IntKind.i64 n639, Value.int IntKind.i64 n640, Value.slice p641 k642 k643, Value.int IntKind.i64 n644, Value.int IntKind.i64 n645, Value.int IntKind.i64 n646, Value.int IntKind.i64 n647, Value.int IntKind.i64 n648, Value.int IntKind.i64 n649, Value.int IntKind.i64 n650, Value.int IntKind.i64 n651]] w622 fun e652 w653 =>
        ∃ b654 : Bool,
        (
         e652 = Ending.returned (Value.bool b654)) ∧
        Br (!b654)
         (
          R (Ending.returned (Value.bool false)) w653)
         (
          ∃ n655 : Int,
          ∃ n656 : Int,
          ∃ n657 : Int,
          ∃ p658 : Option Addr,
          ∃ k659 : Nat,
          ∃ k660 : Nat,
          ∃ n661 : Int,
          ∃ n662 : Int,
          ∃ n663 : Int,
          ∃ n664 : Int,
          ∃ n665 : Int,
          ∃ n666 : Int,
          ∃ n667 : Int,
          ∃ n668 : Int,
          (
           Row w653 { block := b37, off := (0 : Nat) } (0 : Nat) [Value.int IntKind.i64 n655, Value.int IntKind.i64 n656, Value.int IntKind.i64 n657, Value.slice p658 k659 k660, Value.int IntKind.i64 n661, Value.int IntKind.i64 n662, Value.int IntKind.i64 n663, Value.int IntKind.i64 n664, Value.int IntKind.i64 n665, Value.int IntKind.i64 n666, Value.int IntKind.i64 n667, Value.int IntKind.i64 n668]) ∧
          ∃ n669 : Int,
          ∃ n670 : Int,
          ∃ n671 : Int,
          ∃ p672 : Option Addr,
          ∃ k673 : Nat,
          ∃ k674 : Nat,
          ∃ n675 : Int,
          ∃ n676 : Int,
          ∃ n677 : Int,
          ∃ n678 : Int,
          ∃ n679 : Int,
          ∃ n680 : Int,
          ∃ n681 : Int,
          ∃ n682 : Int,
          (
           Row w653 { block := b15, off := (0 : Nat) } (0 : Nat) [Value.int IntKind.i64 n669, Value.int IntKind.i64 n670, Value.int IntKind.i64 n671, Value.slice p672 k673 k674, Value.int IntKind.i64 n675, Value.int IntKind.i64 n676, Value.int IntKind.i64 n677, Value.int IntKind.i64 n678, Value.int IntKind.i64 n679, Value.int IntKind.i64 n680, Value.int IntKind.i64 n681, Value.int IntKind.i64 n682]) ∧
          Ca Try.prog (16 : Nat) #[Value.agg #[Value.int IntKind.i64 n655, Value.int IntKind.i64 n656, Value.int IntKind.i64 n657, Value.slice p658 k659 k660, Value.int IntKind.i64 n661, Value.int IntKind.i64 n662, Value.int IntKind.i64 n663, Value.int IntKind.i64 n664, Value.int IntKind.i64 n665, Value.int IntKind.i64 n666, Value.int IntKind.i64 n667, Value.int IntKind.i64 n668]] w653 fun e683 w684 =>
          ∃ n685 : Int,
          (
           e683 = Ending.returned (Value.int IntKind.i64 n685)) ∧
          (
           Row w684 { block := b15, off := (0 : Nat) } (0 : Nat) [Value.int IntKind.i64 n669, Value.int IntKind.i64 n670, Value.int IntKind.i64 n671, Value.slice p672 k673 k674, Value.int IntKind.i64 n675, Value.int IntKind.i64 n676, Value.int IntKind.i64 n677, Value.int IntKind.i64 n678, Value.int IntKind.i64 n679, Value.int IntKind.i64 n680, Value.int IntKind.i64 n681, Value.int IntKind.i64 n682]) ∧
          Ca Try.prog (17 : Nat) #[Value.agg #[Value.int IntKind.i64 n669, Value.int IntKind.i64 n670, Value.int IntKind.i64 n671, Value.slice p672 k673 k674, Value.int IntKind.i64 n675, Value.int IntKind.i64 n676, Value.int IntKind.i64 n677, Value.int IntKind.i64 n678, Value.int IntKind.i64 n679, Value.int IntKind.i64 n680, Value.int IntKind.i64 n681, Value.int IntKind.i64 n682]] w684 fun e686 w687 =>
          ∃ n688 : Int,
          (
           e686 = Ending.returned (Value.int IntKind.i64 n688)) ∧
          Br (n685 != n688)
           (
            R (Ending.returned (Value.bool false)) w687)
           (
            ∃ n689 : Int,
            ∃ n690 : Int,
            ∃ n691 : Int,
            ∃ p692 : Option Addr,
            ∃ k693 : Nat,
            ∃ k694 : Nat,
            ∃ n695 : Int,
            ∃ n696 : Int,
            ∃ n697 : Int,
            ∃ n698 : Int,
            ∃ n699 : Int,
            ∃ n700 : Int,
            ∃ n701 : Int,
            ∃ n702 : Int,
            (
             Row w687 { block := b37, off := (0 : Nat) } (0 : Nat) [Value.int IntKind.i64 n689, Value.int IntKind.i64 n690, Value.int IntKind.i64 n691, Value.slice p692 k693 k694, Value.int IntKind.i64 n695, Value.int IntKind.i64 n696, Value.int IntKind.i64 n697, Value.int IntKind.i64 n698, Value.int IntKind.i64 n699, Value.int IntKind.i64 n700, Value.int IntKind.i64 n701, Value.int IntKind.i64 n702]) ∧
            Ca Try.prog (18 : Nat) #[Value.agg #[Value.int IntKind.i64 n689, Value.int IntKind.i64 n690, Value.int IntKind.i64 n691, Value.slice p692 k693 k694, Value.int IntKind.i64 n695, Value.int IntKind.i64 n696, Value.int IntKind.i64 n697, Value.int IntKind.i64 n698, Value.int IntKind.i64 n699, Value.int IntKind.i64 n700, Value.int IntKind.i64 n701, Value.int IntKind.i64 n702]] w687 fun e703 w704 =>
            ∃ n705 : Int,
            ∃ p706 : Option Addr,
            ∃ k707 : Nat,
            ∃ k708 : Nat,
            ∃ n709 : Int,
            ∃ n710 : Int,
            (
             e703 = Ending.returned (Value.tuple #[Value.agg #[Value.int IntKind.i64 n705, Value.slice p706 k707 k708, Value.int IntKind.i64 n709], Value.int IntKind.i64 n710])) ∧
            LetA (Obj.cells #[Value.int IntKind.i64 (0 : Int), Value.slice none (0 : Nat) (0 : Nat), Value.int IntKind.i64 (0 : Int)] (32 : Nat)) w704 fun b711 w712 =>
            (
             WrRow w712 { block := b711, off := (0 : Nat) } (0 : Nat) [Value.int IntKind.i64 n705, Value.slice p706 k707 k708, Value.int IntKind.i64 n709]) ∧
            LetW (setRow w712 { block := b711, off := (0 : Nat) } (0 : Nat) [Value.int IntKind.i64 n705, Value.slice p706 k707 k708, Value.int IntKind.i64 n709]) fun w713 =>
            ∃ n714 : Int,
            ∃ n715 : Int,
            ∃ n716 : Int,
            ∃ p717 : Option Addr,
            ∃ k718 : Nat,
            ∃ k719 : Nat,
            ∃ n720 : Int,
            ∃ n721 : Int,
            ∃ n722 : Int,
            ∃ n723 : Int,
            ∃ n724 : Int,
            ∃ n725 : Int,
            ∃ n726 : Int,
            ∃ n727 : Int,
            (
             Row w713 { block := b15, off := (0 : Nat) } (0 : Nat) [Value.int IntKind.i64 n714, Value.int IntKind.i64 n715, Value.int IntKind.i64 n716, Value.slice p717 k718 k719, Value.int IntKind.i64 n720, Value.int IntKind.i64 n721, Value.int IntKind.i64 n722, Value.int IntKind.i64 n723, Value.int IntKind.i64 n724, Value.int IntKind.i64 n725, Value.int IntKind.i64 n726, Value.int IntKind.i64 n727]) ∧
            Ca Try.prog (19 : Nat) #[Value.agg #[Value.int IntKind.i64 n714, Value.int IntKind.i64 n715, Value.int IntKind.i64 n716, Value.slice p717 k718 k719, Value.int IntKind.i64 n720, Value.int IntKind.i64 n721, Value.int IntKind.i64 n722, Value.int IntKind.i64 n723, Value.int IntKind.i64 n724, Value.int IntKind.i64 n725, Value.int IntKind.i64 n726, Value.int IntKind.i64 n727]] w713 fun e728 w729 =>
            ∃ n730 : Int,
            ∃ p731 : Option Addr,
            ∃ k732 : Nat,
            ∃ k733 : Nat,
            ∃ n734 : Int,
            ∃ n735 : Int,
            (
             e728 = Ending.returned (Value.tuple #[Value.agg #[Value.int IntKind.i64 n730, Value.slice p731 k732 k733, Value.int IntKind.i64 n734], Value.int IntKind.i64 n735])) ∧
            LetA (Obj.cells #[Value.int IntKind.i64 (0 : Int), Value.slice none (0 : Nat) (0 : Nat), Value.int IntKind.i64 (0 : Int)] (32 : Nat)) w729 fun b736 w737 =>
            (
             WrRow w737 { block := b736, off := (0 : Nat) } (0 : Nat) [Value.int IntKind.i64 n730, Value.slice p731 k732 k733, Value.int IntKind.i64 n734]) ∧
            LetW (setRow w737 { block := b736, off := (0 : Nat) } (0 : Nat) [Value.int IntKind.i64 n730, Value.slice p731 k732 k733, Value.int IntKind.i64 n734]) fun w738 =>
            ∃ n739 : Int,
            ∃ n740 : Int,
            ∃ n741 : Int,
            ∃ p742 : Option Addr,
            ∃ k743 : Nat,
            ∃ k744 : Nat,
            ∃ n745 : Int,
            ∃ n746 : Int,
            ∃ n747 : Int,
            ∃ n748 : Int,
            ∃ n749 : Int,
            ∃ n750 : Int,
            ∃ n751 : Int,
            ∃ n752 : Int,
            (
             Row w738 { block := b571, off := (0 : Nat) } (0 : Nat) [Value.int IntKind.i64 n739, Value.int IntKind.i64 n740, Value.int IntKind.i64 n741, Value.slice p742 k743 k744, Value.int IntKind.i64 n745, Value.int IntKind.i64 n746, Value.int IntKind.i64 n747, Value.int IntKind.i64 n748, Value.int IntKind.i64 n749, Value.int IntKind.i64 n750, Value.int IntKind.i64 n751, Value.int IntKind.i64 n752]) ∧
            Ca Try.prog (18 : Nat) #[Value.agg #[Value.int IntKind.i64 n739, Value.int IntKind.i64 n740, Value.int IntKind.i64 n741, Value.slice p742 k743 k744, Value.int IntKind.i64 n745, Value.int IntKind.i64 n746, Value.int IntKind.i64 n747, Value.int IntKind.i64 n748, Value.int IntKind.i64 n749, Value.int IntKind.i64 n750, Value.int IntKind.i64 n751, Value.int IntKind.i64 n752]] w738 fun e753 w754 =>
            ∃ n755 : Int,
            ∃ p756 : Option Addr,
            ∃ k757 : Nat,
            ∃ k758 : Nat,
            ∃ n759 : Int,
            ∃ n760 : Int,
            (
             e753 = Ending.returned (Value.tuple #[Value.agg #[Value.int IntKind.i64 n755, Value.slice p756 k757 k758, Value.int IntKind.i64 n759], Value.int IntKind.i64 n760])) ∧
            LetA (Obj.cells #[Value.int IntKind.i64 (0 : Int), Value.slice none (0 : Nat) (0 : Nat), Value.int IntKind.i64 (0 : Int)] (32 : Nat)) w754 fun b761 w762 =>
            (
             WrRow w762 { block := b761, off := (0 : Nat) } (0 : Nat) [Value.int IntKind.i64 n755, Value.slice p756 k757 k758, Value.int IntKind.i64 n759]) ∧
            LetW (setRow w762 { block := b761, off := (0 : Nat) } (0 : Nat) [Value.int IntKind.i64 n755, Value.slice p756 k757 k758, Value.int IntKind.i64 n759]) fun w763 =>
            ∃ n764 : Int,
            ∃ n765 : Int,
            ∃ n766 : Int,
            ∃ p767 : Option Addr,
            ∃ k768 : Nat,
            ∃ k769 : Nat,
            ∃ n770 : Int,
            ∃ n771 : Int,
            ∃ n772 : Int,
            ∃ n773 : Int,
            ∃ n774 : Int,
            ∃ n775 : Int,
            ∃ n776 : Int,
            ∃ n777 : Int,
            (
             Row w763 { block := b589, off := (0 : Nat) } (0 : Nat) [Value.int IntKind.i64 n764, Value.int IntKind.i64 n765, Value.int IntKind.i64 n766, Value.slice p767 k768 k769, Value.int IntKind.i64 n770, Value.int IntKind.i64 n771, Value.int IntKind.i64 n772, Value.int IntKind.i64 n773, Value.int IntKind.i64 n774, Value.int IntKind.i64 n775, Value.int IntKind.i64 n776, Value.int IntKind.i64 n777]) ∧
            Ca Try.prog (19 : Nat) #[Value.agg #[Value.int IntKind.i64 n764, Value.int IntKind.i64 n765, Value.int IntKind.i64 n766, Value.slice p767 k768 k769, Value.int IntKind.i64 n770, Value.int IntKind.i64 n771, Value.int IntKind.i64 n772, Value.int IntKind.i64 n773, Value.int IntKind.i64 n774, Value.int IntKind.i64 n775, Value.int IntKind.i64 n776, Value.int IntKind.i64 n777]] w763 fun e778 w779 =>
            ∃ n780 : Int,
            ∃ p781 : Option Addr,
            ∃ k782 : Nat,
            ∃ k783 : Nat,
            ∃ n784 : Int,
            ∃ n785 : Int,
            (
             e778 = Ending.returned (Value.tuple #[Value.agg #[Value.int IntKind.i64 n780, Value.slice p781 k782 k783, Value.int IntKind.i64 n784], Value.int IntKind.i64 n785])) ∧
            LetA (Obj.cells #[Value.int IntKind.i64 (0 : Int), Value.slice none (0 : Nat) (0 : Nat), Value.int IntKind.i64 (0 : Int)] (32 : Nat)) w779 fun b786 w787 =>
            (
             WrRow w787 { block := b786, off := (0 : Nat) } (0 : Nat) [Value.int IntKind.i64 n780, Value.slice p781 k782 k783, Value.int IntKind.i64 n784]) ∧
            LetW (setRow w787 { block := b786, off := (0 : Nat) } (0 : Nat) [Value.int IntKind.i64 n780, Value.slice p781 k782 k783, Value.int IntKind.i64 n784]) fun w788 =>
            ∃ n789 : Int,
            ∃ p790 : Option Addr,
            ∃ k791 : Nat,
            ∃ k792 : Nat,
            ∃ n793 : Int,
            (
             Row w788 { block := b711, off := (0 : Nat) } (0 : Nat) [Value.int IntKind.i64 n789, Value.slice p790 k791 k792, Value.int IntKind.i64 n793]) ∧
            ∃ n794 : Int,
            ∃ p795 : Option Addr,
            ∃ k796 : Nat,
            ∃ k797 : Nat,
            ∃ n798 : Int,
            (
             Row w788 { block := b736, off := (0 : Nat) } (0 : Nat) [Value.int IntKind.i64 n794, Value.slice p795 k796 k797, Value.int IntKind.i64 n798]) ∧
            Ca Try.prog (20 : Nat) #[Value.agg #[Value.int IntKind.i64 n789, Value.slice p790 k791 k792, Value.int IntKind.i64 n793], Value.agg #[Value.int IntKind.i64 n794, Value.slice p795 k796 k797, Value.int IntKind.i64 n798]] w788 fun e799 w800 =>
            ∃ b801 : Bool,
            (
             e799 = Ending.returned (Value.bool b801)) ∧
            Br (b801)
             (
              Br (n710 == n735)
               (
                ∃ n802 : Int,
                ∃ p803 : Option Addr,
                ∃ k804 : Nat,
                ∃ k805 : Nat,
                ∃ n806 : Int,
                (
                 Row w800 { block := b761, off := (0 : Nat) } (0 : Nat) [Value.int IntKind.i64 n802, Value.slice p803 k804 k805, Value.int IntKind.i64 n806]) ∧
                ∃ n807 : Int,
                ∃ p808 : Option Addr,
                ∃ k809 : Nat,
                ∃ k810 : Nat,
                ∃ n811 : Int,
                (
                 Row w800 { block := b786, off := (0 : Nat) } (0 : Nat) [Value.int IntKind.i64 n807, Value.slice p808 k809 k810, Value.int IntKind.i64 n811]) ∧
                Ca Try.prog (20 : Nat) #[Value.agg #[Value.int IntKind.i64 n802, Value.slice p803 k804 k805, Value.int IntKind.i64 n806], Value.agg #[Value.int IntKind.i64 n807, Value.slice p808 k809 k810, Value.int IntKind.i64 n811]] w800 fun e812 w813 =>
                ∃ b814 : Bool,
                (
                 e812 = Ending.returned (Value.bool b814)) ∧
                Br (b814)
                 (
                  Br (n760 == n785)
                   (
                    Ca Try.prog (12 : Nat) #[] w813 fun e815 w816 =>
                    ∃ b817 : Bool,
                    (
                     e815 = Ending.returned (Value.bool b817)) ∧
                    R (Ending.returned (Value.bool b817)) w816)
                   (
                    R (Ending.returned (Value.bool false)) w813))
                 (
                  R (Ending.returned (Value.bool false)) w813))
               (
                R (Ending.returned (Value.bool false)) w800))
             (
              R (Ending.returned (Value.bool false)) w800))))) ∧
     LetA (Obj.cells #[Value.int IntKind.i64 (0 : Int), Value.int IntKind.i64 (0 : Int), Value.int IntKind.i64 (0 : Int), Value.slice none (0 : Nat) (0 : Nat), Value.int IntKind.i64 (0 : Int), Value.int IntKind.i64 (0 : Int), Value.int IntKind.i64 (0 : Int), Value.int IntKind.i64 (0 : Int), Value.int IntKind.i64 (0 : Int), Value.int IntKind.i64 (0 : Int), Value.int IntKind.i64 (0 : Int), Value.int IntKind.i64 (0 : Int)] (24 : Nat)) w572 fun b818 w819 =>
     (
      Row w819 { block := b15, off := (0 : Nat) } (0 : Nat) [Value.int IntKind.i64 n63, Value.int IntKind.i64 n64, Value.int IntKind.i64 n65, Value.slice p66 k67 k68, Value.int IntKind.i64 n69, Value.int IntKind.i64 n70, Value.int IntKind.i64 n71, Value.int IntKind.i64 n72, Value.int IntKind.i64 n73, Value.int IntKind.i64 n74, Value.int IntKind.i64 n75, Value.int IntKind.i64 n76]) ∧
     Ca Try.prog (14 : Nat) #[Value.agg #[Value.int IntKind.i64 n63, Value.int IntKind.i64 n64, Value.int IntKind.i64 n65, Value.slice p66 k67 k68, Value.int IntKind.i64 n69, Value.int IntKind.i64 n70, Value.int IntKind.i64 n71, Value.int IntKind.i64 n72, Value.int IntKind.i64 n73, Value.int IntKind.i64 n74, Value.int IntKind.i64 n75, Value.int IntKind.i64 n76]] w819 fun e820 w821 =>
     ∃ n822 : Int,
     ∃ n823 : Int,
     ∃ n824 : Int,
     ∃ p825 : Option Addr,
     ∃ k826 : Nat,
     ∃ k827 : Nat,
     ∃ n828 : Int,
     ∃ n829 : Int,
     ∃ n830 : Int,
     ∃ n831 : Int,
     ∃ n832 : Int,
     ∃ n833 : Int,
     ∃ n834 : Int,
     ∃ n835 : Int,
     (
      e820 = Ending.returned (Value.agg #[Value.int IntKind.i64 n822, Value.int IntKind.i64 n823, Value.int IntKind.i64 n824, Value.slice p825 k826 k827, Value.int IntKind.i64 n828, Value.int IntKind.i64 n829, Value.int IntKind.i64 n830, Value.int IntKind.i64 n831, Value.int IntKind.i64 n832, Value.int IntKind.i64 n833, Value.int IntKind.i64 n834, Value.int IntKind.i64 n835])) ∧
     (
      WrRow w821 { block := b571, off := (0 : Nat) } (0 : Nat) [Value.int IntKind.i64 n79, Value.int IntKind.i64 n80, Value.int IntKind.i64 n81, Value.slice p82 k83 k84, Value.int IntKind.i64 n85, Value.int IntKind.i64 n86, Value.int IntKind.i64 n87, Value.int IntKind.i64 n88, Value.int IntKind.i64 n89, Value.int IntKind.i64 n90, Value.int IntKind.i64 n91, Value.int IntKind.i64 n92]) ∧
     LetW (setRow w821 { block := b571, off := (0 : Nat) } (0 : Nat) [Value.int IntKind.i64 n79, Value.int IntKind.i64 n80, Value.int IntKind.i64 n81, Value.slice p82 k83 k84, Value.int IntKind.i64 n85, Value.int IntKind.i64 n86, Value.int IntKind.i64 n87, Value.int IntKind.i64 n88, Value.int IntKind.i64 n89, Value.int IntKind.i64 n90, Value.int IntKind.i64 n91, Value.int IntKind.i64 n92]) fun w836 =>
     (
      WrRow w836 { block := b818, off := (0 : Nat) } (0 : Nat) [Value.int IntKind.i64 n822, Value.int IntKind.i64 n823, Value.int IntKind.i64 n824, Value.slice p825 k826 k827, Value.int IntKind.i64 n828, Value.int IntKind.i64 n829, Value.int IntKind.i64 n830, Value.int IntKind.i64 n831, Value.int IntKind.i64 n832, Value.int IntKind.i64 n833, Value.int IntKind.i64 n834, Value.int IntKind.i64 n835]) ∧
     LetW (setRow w836 { block := b818, off := (0 : Nat) } (0 : Nat) [Value.int IntKind.i64 n822, Value.int IntKind.i64 n823, Value.int IntKind.i64 n824, Value.slice p825 k826 k827, Value.int IntKind.i64 n828, Value.int IntKind.i64 n829, Value.int IntKind.i64 n830, Value.int IntKind.i64 n831, Value.int IntKind.i64 n832, Value.int IntKind.i64 n833, Value.int IntKind.i64 n834, Value.int IntKind.i64 n835]) fun w837 =>
     ∃ n838 : Int,
     ∃ n839 : Int,
     ∃ n840 : Int,
     ∃ p841 : Option Addr,
     ∃ k842 : Nat,
     ∃ k843 : Nat,
     ∃ n844 : Int,
     ∃ n845 : Int,
     ∃ n846 : Int,
     ∃ n847 : Int,
     ∃ n848 : Int,
     ∃ n849 : Int,
     ∃ n850 : Int,
     ∃ n851 : Int,
     (
      Row w837 { block := b571, off := (0 : Nat) } (0 : Nat) [Value.int IntKind.i64 n838, Value.int IntKind.i64 n839, Value.int IntKind.i64 n840, Value.slice p841 k842 k843, Value.int IntKind.i64 n844, Value.int IntKind.i64 n845, Value.int IntKind.i64 n846, Value.int IntKind.i64 n847, Value.int IntKind.i64 n848, Value.int IntKind.i64 n849, Value.int IntKind.i64 n850, Value.int IntKind.i64 n851]) ∧
     ∃ n852 : Int,
     ∃ n853 : Int,
     ∃ n854 : Int,
     ∃ p855 : Option Addr,
     ∃ k856 : Nat,
     ∃ k857 : Nat,
     ∃ n858 : Int,
     ∃ n859 : Int,
     ∃ n860 : Int,
     ∃ n861 : Int,
     ∃ n862 : Int,
     ∃ n863 : Int,
     ∃ n864 : Int,
     ∃ n865 : Int,
     (
      Row w837 { block := b818, off := (0 : Nat) } (0 : Nat) [Value.int IntKind.i64 n852, Value.int IntKind.i64 n853, Value.int IntKind.i64 n854, Value.slice p855 k856 k857, Value.int IntKind.i64 n858, Value.int IntKind.i64 n859, Value.int IntKind.i64 n860, Value.int IntKind.i64 n861, Value.int IntKind.i64 n862, Value.int IntKind.i64 n863, Value.int IntKind.i64 n864, Value.int IntKind.i64 n865]) ∧
     Ca Try.prog (15 : Nat) #[Value.agg #[Value.int IntKind.i64 n838, Value.int IntKind.i64 n839, Value.int IntKind.i64 n840, Value.slice p841 k842 k843, Value.int IntKind.i64 n844, Value.int IntKind.i64 n845, Value.int IntKind.i64 n846, Value.int IntKind.i64 n847, Value.int IntKind.i64 n848, Value.int IntKind.i64 n849, Value.int IntKind.i64 n850, Value.int IntKind.i64 n851], Value.agg #[Value.int IntKind.i64 n852, Value.int IntKind.i64 n853, Value.int IntKind.i64 n854, Value.slice p855 k856 k857, Value.int IntKind.i64 n858, Value.int IntKind.i64 n859, Value.int IntKind.i64 n860, Value.int IntKind.i64 n861, Value.int IntKind.i64 n862, Value.int IntKind.i64 n863, Value.int IntKind.i64 n864, Value.int IntKind.i64 n865]] w837 fun e866 w867 =>
     ∃ b868 : Bool,
     (
      e866 = Ending.returned (Value.bool b868)) ∧
     Br (!b868)
      (
       R (Ending.returned (Value.bool false)) w867)
      (
       ∃ n869 : Int,
       ∃ n870 : Int,
       ∃ n871 : Int,
       ∃ p872 : Option Addr,
       ∃ k873 : Nat,
       ∃ k874 : Nat,
       ∃ n875 : Int,
       ∃ n876 : Int,
       ∃ n877 : Int,
       ∃ n878 : Int,
       ∃ n879 : Int,
       ∃ n880 : Int,
       ∃ n881 : Int,
       ∃ n882 : Int,
       (
        Row w867 { block := b37, off := (0 : Nat) } (0 : Nat) [Value.int IntKind.i64 n869, Value.int IntKind.i64 n870, Value.int IntKind.i64 n871, Value.slice p872 k873 k874, Value.int IntKind.i64 n875, Value.int IntKind.i64 n876, Value.int IntKind.i64 n877, Value.int IntKind.i64 n878, Value.int IntKind.i64 n879, Value.int IntKind.i64 n880, Value.int IntKind.i64 n881, Value.int IntKind.i64 n882]) ∧
       ∃ n883 : Int,
       ∃ n884 : Int,
       ∃ n885 : Int,
       ∃ p886 : Option Addr,
       ∃ k887 : Nat,
       ∃ k888 : Nat,
       ∃ n889 : Int,
       ∃ n890 : Int,
       ∃ n891 : Int,
       ∃ n892 : Int,
       ∃ n893 : Int,
       ∃ n894 : Int,
       ∃ n895 : Int,
       ∃ n896 : Int,
       (
        Row w867 { block := b15, off := (0 : Nat) } (0 : Nat) [Value.int IntKind.i64 n883, Value.int IntKind.i64 n884, Value.int IntKind.i64 n885, Value.slice p886 k887 k888, Value.int IntKind.i64 n889, Value.int IntKind.i64 n890, Value.int IntKind.i64 n891, Value.int IntKind.i64 n892, Value.int IntKind.i64 n893, Value.int IntKind.i64 n894, Value.int IntKind.i64 n895, Value.int IntKind.i64 n896]) ∧
       Ca Try.prog (15 : Nat) #[Value.agg #[Value.int IntKind.i64 n869, Value.int IntKind.i64 n870, Value.int IntKind.i64 n871, Value.slice p872 k873 k874, Value.int IntKind.i64 n875, Value.int IntKind.i64 n876, Value.int IntKind.i64 n877, Value.int IntKind.i64 n878, Value.int IntKind.i64 n879, Value.int IntKind.i64 n880, Value.int IntKind.i64 n881, Value.int IntKind.i64 n882], Value.agg #[Value.int IntKind.i64 n883, Value.int IntKind.i64 n884, Value.int IntKind.i64 n885, Value.slice p886 k887 k888, Value.int IntKind.i64 n889, Value.int IntKind.i64 n890, Value.int IntKind.i64 n891, Value.int IntKind.i64 n892, Value.int IntKind.i64 n893, Value.int IntKind.i64 n894, Value.int IntKind.i64 n895, Value.int IntKind.i64 n896]] w867 fun e897 w898 =>
       ∃ b899 : Bool,
       (
        e897 = Ending.returned (Value.bool b899)) ∧
       Br (!b899)
        (
         R (Ending.returned (Value.bool false)) w898)
        (
         ∃ n900 : Int,
         ∃ n901 : Int,
         ∃ n902 : Int,
         ∃ p903 : Option Addr,
         ∃ k904 : Nat,
         ∃ k905 : Nat,
         ∃ n906 : Int,
         ∃ n907 : Int,
         ∃ n908 : Int,
         ∃ n909 : Int,
         ∃ n910 : Int,
         ∃ n911 : Int,
         ∃ n912 : Int,
         ∃ n913 : Int,
         (
          Row w898 { block := b37, off := (0 : Nat) } (0 : Nat) [Value.int IntKind.i64 n900, Value.int IntKind.i64 n901, Value.int IntKind.i64 n902, Value.slice p903 k904 k905, Value.int IntKind.i64 n906, Value.int IntKind.i64 n907, Value.int IntKind.i64 n908, Value.int IntKind.i64 n909, Value.int IntKind.i64 n910, Value.int IntKind.i64 n911, Value.int IntKind.i64 n912, Value.int IntKind.i64 n913]) ∧
         ∃ n914 : Int,
         ∃ n915 : Int,
         ∃ n916 : Int,
         ∃ p917 : Option Addr,
         ∃ k918 : Nat,
         ∃ k919 : Nat,
         ∃ n920 : Int,
         ∃ n921 : Int,
         ∃ n922 : Int,
         ∃ n923 : Int,
         ∃ n924 : Int,
         ∃ n925 : Int,
         ∃ n926 : Int,
         ∃ n927 : Int,
         (
          Row w898 { block := b15, off := (0 : Nat) } (0 : Nat) [Value.int IntKind.i64 n914, Value.int IntKind.i64 n915, Value.int IntKind.i64 n916, Value.slice p917 k918 k919, Value.int IntKind.i64 n920, Value.int IntKind.i64 n921, Value.int IntKind.i64 n922, Value.int IntKind.i64 n923, Value.int IntKind.i64 n924, Value.int IntKind.i64 n925, Value.int IntKind.i64 n926, Value.int IntKind.i64 n927]) ∧
         Ca Try.prog (16 : Nat) #[Value.agg #[Value.int IntKind.i64 n900, Value.int IntKind.i64 n901, Value.int IntKind.i64 n902, Value.slice p903 k904 k905, Value.int IntKind.i64 n906, Value.int IntKind.i64 n907, Value.int IntKind.i64 n908, Value.int IntKind.i64 n909, Value.int IntKind.i64 n910, Value.int IntKind.i64 n911, Value.int IntKind.i64 n912, Value.int IntKind.i64 n913]] w898 fun e928 w929 =>
         ∃ n930 : Int,
         (
          e928 = Ending.returned (Value.int IntKind.i64 n930)) ∧
         (
          Row w929 { block := b15, off := (0 : Nat) } (0 : Nat) [Value.int IntKind.i64 n914, Value.int IntKind.i64 n915, Value.int IntKind.i64 n916, Value.slice p917 k918 k919, Value.int IntKind.i64 n920, Value.int IntKind.i64 n921, Value.int IntKind.i64 n922, Value.int IntKind.i64 n923, Value.int IntKind.i64 n924, Value.int IntKind.i64 n925, Value.int IntKind.i64 n926, Value.int IntKind.i64 n927]) ∧
         Ca Try.prog (17 : Nat) #[Value.agg #[Value.int IntKind.i64 n914, Value.int IntKind.i64 n915, Value.int IntKind.i64 n916, Value.slice p917 k918 k919, Value.int IntKind.i64 n920, Value.int IntKind.i64 n921, Value.int IntKind.i64 n922, Value.int IntKind.i64 n923, Value.int IntKind.i64 n924, Value.int IntKind.i64 n925, Value.int IntKind.i64 n926, Value.int IntKind.i64 n927]] w929 fun e931 w932 =>
         ∃ n933 : Int,
         (
          e931 = Ending.returned (Value.int IntKind.i64 n933)) ∧
         Br (n930 != n933)
          (
           R (Ending.returned (Value.bool false)) w932)
          (
           ∃ n934 : Int,
           ∃ n935 : Int,
           ∃ n936 : Int,
           ∃ p937 : Option Addr,
           ∃ k938 : Nat,
           ∃ k939 : Nat,
           ∃ n940 : Int,
           ∃ n941 : Int,
           ∃ n942 : Int,
           ∃ n943 : Int,
           ∃ n944 : Int,
           ∃ n945 : Int,
           ∃ n946 : Int,
           ∃ n947 : Int,
           (
            Row w932 { block := b37, off := (0 : Nat) } (0 : Nat) [Value.int IntKind.i64 n934, Value.int IntKind.i64 n935, Value.int IntKind.i64 n936, Value.slice p937 k938 k939, Value.int IntKind.i64 n940, Value.int IntKind.i64 n941, Value.int IntKind.i64 n942, Value.int IntKind.i64 n943, Value.int IntKind.i64 n944, Value.int IntKind.i64 n945, Value.int IntKind.i64 n946, Value.int IntKind.i64 n947]) ∧
           Ca Try.prog (18 : Nat) #[Value.agg #[Value.int IntKind.i64 n934, Value.int IntKind.i64 n935, Value.int IntKind.i64 n936, Value.slice p937 k938 k939, Value.int IntKind.i64 n940, Value.int IntKind.i64 n941, Value.int IntKind.i64 n942, Value.int IntKind.i64 n943, Value.int IntKind.i64 n944, Value.int IntKind.i64 n945, Value.int IntKind.i64 n946, Value.int IntKind.i64 n947]] w932 fun e948 w949 =>
           ∃ n950 : Int,
           ∃ p951 : Option Addr,
           ∃ k952 : Nat,
           ∃ k953 : Nat,
           ∃ n954 : Int,
           ∃ n955 : Int,
           (
            e948 = Ending.returned (Value.tuple #[Value.agg #[Value.int IntKind.i64 n950, Value.slice p951 k952 k953, Value.int IntKind.i64 n954], Value.int IntKind.i64 n955])) ∧
           LetA (Obj.cells #[Value.int IntKind.i64 (0 : Int), Value.slice none (0 : Nat) (0 : Nat), Value.int IntKind.i64 (0 : Int)] (32 : Nat)) w949 fun b956 w957 =>
           (
            WrRow w957 { block := b956, off := (0 : Nat) } (0 : Nat) [Value.int IntKind.i64 n950, Value.slice p951 k952 k953, Value.int IntKind.i64 n954]) ∧
           LetW (setRow w957 { block := b956, off := (0 : Nat) } (0 : Nat) [Value.int IntKind.i64 n950, Value.slice p951 k952 k953, Value.int IntKind.i64 n954]) fun w958 =>
           ∃ n959 : Int,
           ∃ n960 : Int,
           ∃ n961 : Int,
           ∃ p962 : Option Addr,
           ∃ k963 : Nat,
           ∃ k964 : Nat,
           ∃ n965 : Int,
           ∃ n966 : Int,
           ∃ n967 : Int,
           ∃ n968 : Int,
           ∃ n969 : Int,
           ∃ n970 : Int,
           ∃ n971 : Int,
           ∃ n972 : Int,
           (
            Row w958 { block := b15, off := (0 : Nat) } (0 : Nat) [Value.int IntKind.i64 n959, Value.int IntKind.i64 n960, Value.int IntKind.i64 n961, Value.slice p962 k963 k964, Value.int IntKind.i64 n965, Value.int IntKind.i64 n966, Value.int IntKind.i64 n967, Value.int IntKind.i64 n968, Value.int IntKind.i64 n969, Value.int IntKind.i64 n970, Value.int IntKind.i64 n971, Value.int IntKind.i64 n972]) ∧
           Ca Try.prog (19 : Nat) #[Value.agg #[Value.int IntKind.i64 n959, Value.int IntKind.i64 n960, Value.int IntKind.i64 n961, Value.slice p962 k963 k964, Value.int IntKind.i64 n965, Value.int IntKind.i64 n966, Value.int IntKind.i64 n967, Value.int IntKind.i64 n968, Value.int IntKind.i64 n969, Value.int IntKind.i64 n970, Value.int IntKind.i64 n971, Value.int IntKind.i64 n972]] w958 fun e973 w974 =>
           ∃ n975 : Int,
           ∃ p976 : Option Addr,
           ∃ k977 : Nat,
           ∃ k978 : Nat,
           ∃ n979 : Int,
           ∃ n980 : Int,
           (
            e973 = Ending.returned (Value.tuple #[Value.agg #[Value.int IntKind.i64 n975, Value.slice p976 k977 k978, Value.int IntKind.i64 n979], Value.int IntKind.i64 n980])) ∧
           LetA (Obj.cells #[Value.int IntKind.i64 (0 : Int), Value.slice none (0 : Nat) (0 : Nat), Value.int IntKind.i64 (0 : Int)] (32 : Nat)) w974 fun b981 w982 =>
           (
            WrRow w982 { block := b981, off := (0 : Nat) } (0 : Nat) [Value.int IntKind.i64 n975, Value.slice p976 k977 k978, Value.int IntKind.i64 n979]) ∧
           LetW (setRow w982 { block := b981, off := (0 : Nat) } (0 : Nat) [Value.int IntKind.i64 n975, Value.slice p976 k977 k978, Value.int IntKind.i64 n979]) fun w983 =>
           ∃ n984 : Int,
           ∃ n985 : Int,
           ∃ n986 : Int,
           ∃ p987 : Option Addr,
           ∃ k988 : Nat,
           ∃ k989 : Nat,
           ∃ n990 : Int,
           ∃ n991 : Int,
           ∃ n992 : Int,
           ∃ n993 : Int,
           ∃ n994 : Int,
           ∃ n995 : Int,
           ∃ n996 : Int,
           ∃ n997 : Int,
           (
            Row w983 { block := b571, off := (0 : Nat) } (0 : Nat) [Value.int IntKind.i64 n984, Value.int IntKind.i64 n985, Value.int IntKind.i64 n986, Value.slice p987 k988 k989, Value.int IntKind.i64 n990, Value.int IntKind.i64 n991, Value.int IntKind.i64 n992, Value.int IntKind.i64 n993, Value.int IntKind.i64 n994, Value.int IntKind.i64 n995, Value.int IntKind.i64 n996, Value.int IntKind.i64 n997]) ∧
           Ca Try.prog (18 : Nat) #[Value.agg #[Value.int IntKind.i64 n984, Value.int IntKind.i64 n985, Value.int IntKind.i64 n986, Value.slice p987 k988 k989, Value.int IntKind.i64 n990, Value.int IntKind.i64 n991, Value.int IntKind.i64 n992, Value.int IntKind.i64 n993, Value.int IntKind.i64 n994, Value.int IntKind.i64 n995, Value.int IntKind.i64 n996, Value.int IntKind.i64 n997]] w983 fun e998 w999 =>
           ∃ n1000 : Int,
           ∃ p1001 : Option Addr,
           ∃ k1002 : Nat,
           ∃ k1003 : Nat,
           ∃ n1004 : Int,
           ∃ n1005 : Int,
           (
            e998 = Ending.returned (Value.tuple #[Value.agg #[Value.int IntKind.i64 n1000, Value.slice p1001 k1002 k1003, Value.int IntKind.i64 n1004], Value.int IntKind.i64 n1005])) ∧
           LetA (Obj.cells #[Value.int IntKind.i64 (0 : Int), Value.slice none (0 : Nat) (0 : Nat), Value.int IntKind.i64 (0 : Int)] (32 : Nat)) w999 fun b1006 w1007 =>
           (
            WrRow w1007 { block := b1006, off := (0 : Nat) } (0 : Nat) [Value.int IntKind.i64 n1000, Value.slice p1001 k1002 k1003, Value.int IntKind.i64 n1004]) ∧
           LetW (setRow w1007 { block := b1006, off := (0 : Nat) } (0 : Nat) [Value.int IntKind.i64 n1000, Value.slice p1001 k1002 k1003, Value.int IntKind.i64 n1004]) fun w1008 =>
           ∃ n1009 : Int,
           ∃ n1010 : Int,
           ∃ n1011 : Int,
           ∃ p1012 : Option Addr,
           ∃ k1013 : Nat,
           ∃ k1014 : Nat,
           ∃ n1015 : Int,
           ∃ n1016 : Int,
           ∃ n1017 : Int,
           ∃ n1018 : Int,
           ∃ n1019 : Int,
           ∃ n1020 : Int,
           ∃ n1021 : Int,
           ∃ n1022 : Int,
           (
            Row w1008 { block := b818, off := (0 : Nat) } (0 : Nat) [Value.int IntKind.i64 n1009, Value.int IntKind.i64 n1010, Value.int IntKind.i64 n1011, Value.slice p1012 k1013 k1014, Value.int IntKind.i64 n1015, Value.int IntKind.i64 n1016, Value.int IntKind.i64 n1017, Value.int IntKind.i64 n1018, Value.int IntKind.i64 n1019, Value.int IntKind.i64 n1020, Value.int IntKind.i64 n1021, Value.int IntKind.i64 n1022]) ∧
           Ca Try.prog (19 : Nat) #[Value.agg #[Value.int IntKind.i64 n1009, Value.int IntKind.i64 n1010, Value.int IntKind.i64 n1011, Value.slice p1012 k1013 k1014, Value.int IntKind.i64 n1015, Value.int IntKind.i64 n1016, Value.int IntKind.i64 n1017, Value.int IntKind.i64 n1018, Value.int IntKind.i64 n1019, Value.int IntKind.i64 n1020, Value.int IntKind.i64 n1021, Value.int IntKind.i64 n1022]] w1008 fun e1023 w1024 =>
           ∃ n1025 : Int,
           ∃ p1026 : Option Addr,
           ∃ k1027 : Nat,
           ∃ k1028 : Nat,
           ∃ n1029 : Int,
           ∃ n1030 : Int,
           (
            e1023 = Ending.returned (Value.tuple #[Value.agg #[Value.int IntKind.i64 n1025, Value.slice p1026 k1027 k1028, Value.int IntKind.i64 n1029], Value.int IntKind.i64 n1030])) ∧
           LetA (Obj.cells #[Value.int IntKind.i64 (0 : Int), Value.slice none (0 : Nat) (0 : Nat), Value.int IntKind.i64 (0 : Int)] (32 : Nat)) w1024 fun b1031 w1032 =>
           (
            WrRow w1032 { block := b1031, off := (0 : Nat) } (0 : Nat) [Value.int IntKind.i64 n1025, Value.slice p1026 k1027 k1028, Value.int IntKind.i64 n1029]) ∧
           LetW (setRow w1032 { block := b1031, off := (0 : Nat) } (0 : Nat) [Value.int IntKind.i64 n1025, Value.slice p1026 k1027 k1028, Value.int IntKind.i64 n1029]) fun w1033 =>
           ∃ n1034 : Int,
           ∃ p1035 : Option Addr,
           ∃ k1036 : Nat,
           ∃ k1037 : Nat,
           ∃ n1038 : Int,
           (
            Row w1033 { block := b956, off := (0 : Nat) } (0 : Nat) [Value.int IntKind.i64 n1034, Value.slice p1035 k1036 k1037, Value.int IntKind.i64 n1038]) ∧
           ∃ n1039 : Int,
           ∃ p1040 : Option Addr,
           ∃ k1041 : Nat,
           ∃ k1042 : Nat,
           ∃ n1043 : Int,
           (
            Row w1033 { block := b981, off := (0 : Nat) } (0 : Nat) [Value.int IntKind.i64 n1039, Value.slice p1040 k1041 k1042, Value.int IntKind.i64 n1043]) ∧
           Ca Try.prog (20 : Nat) #[Value.agg #[Value.int IntKind.i64 n1034, Value.slice p1035 k1036 k1037, Value.int IntKind.i64 n1038], Value.agg #[Value.int IntKind.i64 n1039, Value.slice p1040 k1041 k1042, Value.int IntKind.i64 n1043]] w1033 fun e1044 w1045 =>
           ∃ b1046 : Bool,
           (
            e1044 = Ending.returned (Value.bool b1046)) ∧
           Br (b1046)
            (
             Br (n955 == n980)
              (
               ∃ n1047 : Int,
               ∃ p1048 : Option Addr,
               ∃ k1049 : Nat,
               ∃ k1050 : Nat,
               ∃ n1051 : Int,
               (
                Row w1045 { block := b1006, off := (0 : Nat) } (0 : Nat) [Value.int IntKind.i64 n1047, Value.slice p1048 k1049 k1050, Value.int IntKind.i64 n1051]) ∧
               ∃ n1052 : Int,
               ∃ p1053 : Option Addr,
               ∃ k1054 : Nat,
               ∃ k1055 : Nat,
               ∃ n1056 : Int,
               (
                Row w1045 { block := b1031, off := (0 : Nat) } (0 : Nat) [Value.int IntKind.i64 n1052, Value.slice p1053 k1054 k1055, Value.int IntKind.i64 n1056]) ∧
               Ca Try.prog (20 : Nat) #[Value.agg #[Value.int IntKind.i64 n1047, Value.slice p1048 k1049 k1050, Value.int IntKind.i64 n1051], Value.agg #[Value.int IntKind.i64 n1052, Value.slice p1053 k1054 k1055, Value.int IntKind.i64 n1056]] w1045 fun e1057 w1058 =>
               ∃ b1059 : Bool,
               (
                e1057 = Ending.returned (Value.bool b1059)) ∧
               Br (b1059)
                (
                 Br (n1005 == n1030)
                  (
                   Ca Try.prog (12 : Nat) #[] w1058 fun e1060 w1061 =>
                   ∃ b1062 : Bool,
                   (
                    e1060 = Ending.returned (Value.bool b1062)) ∧
                   R (Ending.returned (Value.bool b1062)) w1061)
                  (
                   R (Ending.returned (Value.bool false)) w1058))
                (
                 R (Ending.returned (Value.bool false)) w1058))
              (
               R (Ending.returned (Value.bool false)) w1045))
            (
             R (Ending.returned (Value.bool false)) w1045))))) ∧
    LetA (Obj.cells #[Value.int IntKind.i64 (0 : Int), Value.int IntKind.i64 (0 : Int), Value.int IntKind.i64 (0 : Int), Value.slice none (0 : Nat) (0 : Nat), Value.int IntKind.i64 (0 : Int), Value.int IntKind.i64 (0 : Int), Value.int IntKind.i64 (0 : Int), Value.int IntKind.i64 (0 : Int), Value.int IntKind.i64 (0 : Int), Value.int IntKind.i64 (0 : Int), Value.int IntKind.i64 (0 : Int), Value.int IntKind.i64 (0 : Int)] (24 : Nat)) w78 fun b1063 w1064 =>
    (
     Row w1064 { block := b15, off := (0 : Nat) } (0 : Nat) [Value.int IntKind.i64 n63, Value.int IntKind.i64 n64, Value.int IntKind.i64 n65, Value.slice p66 k67 k68, Value.int IntKind.i64 n69, Value.int IntKind.i64 n70, Value.int IntKind.i64 n71, Value.int IntKind.i64 n72, Value.int IntKind.i64 n73, Value.int IntKind.i64 n74, Value.int IntKind.i64 n75, Value.int IntKind.i64 n76]) ∧
    (
     Ca Try.prog (14 : Nat) #[Value.agg #[Value.int IntKind.i64 n63, Value.int IntKind.i64 n64, Value.int IntKind.i64 n65, Value.slice p66 k67 k68, Value.int IntKind.i64 n69, Value.int IntKind.i64 n70, Value.int IntKind.i64 n71, Value.int IntKind.i64 n72, Value.int IntKind.i64 n73, Value.int IntKind.i64 n74, Value.int IntKind.i64 n75, Value.int IntKind.i64 n76]] w1064 fun e1065 w1066 =>
     ∃ n1067 : Int,
     ∃ n1068 : Int,
     ∃ n1069 : Int,
     ∃ p1070 : Option Addr,
     ∃ k1071 : Nat,
     ∃ k1072 : Nat,
     ∃ n1073 : Int,
     ∃ n1074 : Int,
     ∃ n1075 : Int,
     ∃ n1076 : Int,
     ∃ n1077 : Int,
     ∃ n1078 : Int,
     ∃ n1079 : Int,
     ∃ n1080 : Int,
     (
      e1065 = Ending.returned (Value.agg #[Value.int IntKind.i64 n1067, Value.int IntKind.i64 n1068, Value.int IntKind.i64 n1069, Value.slice p1070 k1071 k1072, Value.int IntKind.i64 n1073, Value.int IntKind.i64 n1074, Value.int IntKind.i64 n1075, Value.int IntKind.i64 n1076, Value.int IntKind.i64 n1077, Value.int IntKind.i64 n1078, Value.int IntKind.i64 n1079, Value.int IntKind.i64 n1080])) ∧
     LetA (Obj.cells #[Value.int IntKind.i64 (0 : Int), Value.int IntKind.i64 (0 : Int), Value.int IntKind.i64 (0 : Int), Value.slice none (0 : Nat) (0 : Nat), Value.int IntKind.i64 (0 : Int), Value.int IntKind.i64 (0 : Int), Value.int IntKind.i64 (0 : Int), Value.int IntKind.i64 (0 : Int), Value.int IntKind.i64 (0 : Int), Value.int IntKind.i64 (0 : Int), Value.int IntKind.i64 (0 : Int), Value.int IntKind.i64 (0 : Int)] (24 : Nat)) w1066 fun b1081 w1082 =>
     (
      WrRow w1082 { block := b1081, off := (0 : Nat) } (0 : Nat) [Value.int IntKind.i64 n79, Value.int IntKind.i64 n80, Value.int IntKind.i64 n81, Value.slice p82 k83 k84, Value.int IntKind.i64 n85, Value.int IntKind.i64 n86, Value.int IntKind.i64 n87, Value.int IntKind.i64 n88, Value.int IntKind.i64 n89, Value.int IntKind.i64 n90, Value.int IntKind.i64 n91, Value.int IntKind.i64 n92]) ∧
     LetW (setRow w1082 { block := b1081, off := (0 : Nat) } (0 : Nat) [Value.int IntKind.i64 n79, Value.int IntKind.i64 n80, Value.int IntKind.i64 n81, Value.slice p82 k83 k84, Value.int IntKind.i64 n85, Value.int IntKind.i64 n86, Value.int IntKind.i64 n87, Value.int IntKind.i64 n88, Value.int IntKind.i64 n89, Value.int IntKind.i64 n90, Value.int IntKind.i64 n91, Value.int IntKind.i64 n92]) fun w1083 =>
     (
      WrRow w1083 { block := b1063, off := (0 : Nat) } (0 : Nat) [Value.int IntKind.i64 n1067, Value.int IntKind.i64 n1068, Value.int IntKind.i64 n1069, Value.slice p1070 k1071 k1072, Value.int IntKind.i64 n1073, Value.int IntKind.i64 n1074, Value.int IntKind.i64 n1075, Value.int IntKind.i64 n1076, Value.int IntKind.i64 n1077, Value.int IntKind.i64 n1078, Value.int IntKind.i64 n1079, Value.int IntKind.i64 n1080]) ∧
     LetW (setRow w1083 { block := b1063, off := (0 : Nat) } (0 : Nat) [Value.int IntKind.i64 n1067, Value.int IntKind.i64 n1068, Value.int IntKind.i64 n1069, Value.slice p1070 k1071 k1072, Value.int IntKind.i64 n1073, Value.int IntKind.i64 n1074, Value.int IntKind.i64 n1075, Value.int IntKind.i64 n1076, Value.int IntKind.i64 n1077, Value.int IntKind.i64 n1078, Value.int IntKind.i64 n1079, Value.int IntKind.i64 n1080]) fun w1084 =>
     ∃ n1085 : Int,
     ∃ n1086 : Int,
     ∃ n1087 : Int,
     ∃ p1088 : Option Addr,
     ∃ k1089 : Nat,
     ∃ k1090 : Nat,
     ∃ n1091 : Int,
     ∃ n1092 : Int,
     ∃ n1093 : Int,
     ∃ n1094 : Int,
     ∃ n1095 : Int,
     ∃ n1096 : Int,
     ∃ n1097 : Int,
     ∃ n1098 : Int,
     (
      Row w1084 { block := b1081, off := (0 : Nat) } (0 : Nat) [Value.int IntKind.i64 n1085, Value.int IntKind.i64 n1086, Value.int IntKind.i64 n1087, Value.slice p1088 k1089 k1090, Value.int IntKind.i64 n1091, Value.int IntKind.i64 n1092, Value.int IntKind.i64 n1093, Value.int IntKind.i64 n1094, Value.int IntKind.i64 n1095, Value.int IntKind.i64 n1096, Value.int IntKind.i64 n1097, Value.int IntKind.i64 n1098]) ∧
     ∃ n1099 : Int,
     ∃ n1100 : Int,
     ∃ n1101 : Int,
     ∃ p1102 : Option Addr,
     ∃ k1103 : Nat,
     ∃ k1104 : Nat,
     ∃ n1105 : Int,
     ∃ n1106 : Int,
     ∃ n1107 : Int,
     ∃ n1108 : Int,
     ∃ n1109 : Int,
     ∃ n1110 : Int,
     ∃ n1111 : Int,
     ∃ n1112 : Int,
     (
      Row w1084 { block := b1063, off := (0 : Nat) } (0 : Nat) [Value.int IntKind.i64 n1099, Value.int IntKind.i64 n1100, Value.int IntKind.i64 n1101, Value.slice p1102 k1103 k1104, Value.int IntKind.i64 n1105, Value.int IntKind.i64 n1106, Value.int IntKind.i64 n1107, Value.int IntKind.i64 n1108, Value.int IntKind.i64 n1109, Value.int IntKind.i64 n1110, Value.int IntKind.i64 n1111, Value.int IntKind.i64 n1112]) ∧
     Ca Try.prog (15 : Nat) #[Value.agg #[Value.int IntKind.i64 n1085, Value.int IntKind.i64 n1086, Value.int IntKind.i64 n1087, Value.slice p1088 k1089 k1090, Value.int IntKind.i64 n1091, Value.int IntKind.i64 n1092, Value.int IntKind.i64 n1093, Value.int IntKind.i64 n1094, Value.int IntKind.i64 n1095, Value.int IntKind.i64 n1096, Value.int IntKind.i64 n1097, Value.int IntKind.i64 n1098], Value.agg #[Value.int IntKind.i64 n1099, Value.int IntKind.i64 n1100, Value.int IntKind.i64 n1101, Value.slice p1102 k1103 k1104, Value.int IntKind.i64 n1105, Value.int IntKind.i64 n1106, Value.int IntKind.i64 n1107, Value.int IntKind.i64 n1108, Value.int IntKind.i64 n1109, Value.int IntKind.i64 n1110, Value.int IntKind.i64 n1111, Value.int IntKind.i64 n1112]] w1084 fun e1113 w1114 =>
     ∃ b1115 : Bool,
     (
      e1113 = Ending.returned (Value.bool b1115)) ∧
     Br (!b1115)
      (
       R (Ending.returned (Value.bool false)) w1114)
      (
       ∃ n1116 : Int,
       ∃ n1117 : Int,
       ∃ n1118 : Int,
       ∃ p1119 : Option Addr,
       ∃ k1120 : Nat,
       ∃ k1121 : Nat,
       ∃ n1122 : Int,
       ∃ n1123 : Int,
       ∃ n1124 : Int,
       ∃ n1125 : Int,
       ∃ n1126 : Int,
       ∃ n1127 : Int,
       ∃ n1128 : Int,
       ∃ n1129 : Int,
       (
        Row w1114 { block := b37, off := (0 : Nat) } (0 : Nat) [Value.int IntKind.i64 n1116, Value.int IntKind.i64 n1117, Value.int IntKind.i64 n1118, Value.slice p1119 k1120 k1121, Value.int IntKind.i64 n1122, Value.int IntKind.i64 n1123, Value.int IntKind.i64 n1124, Value.int IntKind.i64 n1125, Value.int IntKind.i64 n1126, Value.int IntKind.i64 n1127, Value.int IntKind.i64 n1128, Value.int IntKind.i64 n1129]) ∧
       ∃ n1130 : Int,
       ∃ n1131 : Int,
       ∃ n1132 : Int,
       ∃ p1133 : Option Addr,
       ∃ k1134 : Nat,
       ∃ k1135 : Nat,
       ∃ n1136 : Int,
       ∃ n1137 : Int,
       ∃ n1138 : Int,
       ∃ n1139 : Int,
       ∃ n1140 : Int,
       ∃ n1141 : Int,
       ∃ n1142 : Int,
       ∃ n1143 : Int,
       (
        Row w1114 { block := b15, off := (0 : Nat) } (0 : Nat) [Value.int IntKind.i64 n1130, Value.int IntKind.i64 n1131, Value.int IntKind.i64 n1132, Value.slice p1133 k1134 k1135, Value.int IntKind.i64 n1136, Value.int IntKind.i64 n1137, Value.int IntKind.i64 n1138, Value.int IntKind.i64 n1139, Value.int IntKind.i64 n1140, Value.int IntKind.i64 n1141, Value.int IntKind.i64 n1142, Value.int IntKind.i64 n1143]) ∧
       Ca Try.prog (15 : Nat) #[Value.agg #[Value.int IntKind.i64 n1116, Value.int IntKind.i64 n1117, Value.int IntKind.i64 n1118, Value.slice p1119 k1120 k1121, Value.int IntKind.i64 n1122, Value.int IntKind.i64 n1123, Value.int IntKind.i64 n1124, Value.int IntKind.i64 n1125, Value.int IntKind.i64 n1126, Value.int IntKind.i64 n1127, Value.int IntKind.i64 n1128, Value.int IntKind.i64 n1129], Value.agg #[Value.int IntKind.i64 n1130, Value.int IntKind.i64 n1131, Value.int IntKind.i64 n1132, Value.slice p1133 k1134 k1135, Value.int IntKind.i64 n1136, Value.int IntKind.i64 n1137, Value.int IntKind.i64 n1138, Value.int IntKind.i64 n1139, Value.int IntKind.i64 n1140, Value.int IntKind.i64 n1141, Value.int IntKind.i64 n1142, Value.int IntKind.i64 n1143]] w1114 fun e1144 w1145 =>
       ∃ b1146 : Bool,
       (
        e1144 = Ending.returned (Value.bool b1146)) ∧
       Br (!b1146)
        (
         R (Ending.returned (Value.bool false)) w1145)
        (
         ∃ n1147 : Int,
         ∃ n1148 : Int,
         ∃ n1149 : Int,
         ∃ p1150 : Option Addr,
         ∃ k1151 : Nat,
         ∃ k1152 : Nat,
         ∃ n1153 : Int,
         ∃ n1154 : Int,
         ∃ n1155 : Int,
         ∃ n1156 : Int,
         ∃ n1157 : Int,
         ∃ n1158 : Int,
         ∃ n1159 : Int,
         ∃ n1160 : Int,
         (
          Row w1145 { block := b37, off := (0 : Nat) } (0 : Nat) [Value.int IntKind.i64 n1147, Value.int IntKind.i64 n1148, Value.int IntKind.i64 n1149, Value.slice p1150 k1151 k1152, Value.int IntKind.i64 n1153, Value.int IntKind.i64 n1154, Value.int IntKind.i64 n1155, Value.int IntKind.i64 n1156, Value.int IntKind.i64 n1157, Value.int IntKind.i64 n1158, Value.int IntKind.i64 n1159, Value.int IntKind.i64 n1160]) ∧
         ∃ n1161 : Int,
         ∃ n1162 : Int,
         ∃ n1163 : Int,
         ∃ p1164 : Option Addr,
         ∃ k1165 : Nat,
         ∃ k1166 : Nat,
         ∃ n1167 : Int,
         ∃ n1168 : Int,
         ∃ n1169 : Int,
         ∃ n1170 : Int,
         ∃ n1171 : Int,
         ∃ n1172 : Int,
         ∃ n1173 : Int,
         ∃ n1174 : Int,
         (
          Row w1145 { block := b15, off := (0 : Nat) } (0 : Nat) [Value.int IntKind.i64 n1161, Value.int IntKind.i64 n1162, Value.int IntKind.i64 n1163, Value.slice p1164 k1165 k1166, Value.int IntKind.i64 n1167, Value.int IntKind.i64 n1168, Value.int IntKind.i64 n1169, Value.int IntKind.i64 n1170, Value.int IntKind.i64 n1171, Value.int IntKind.i64 n1172, Value.int IntKind.i64 n1173, Value.int IntKind.i64 n1174]) ∧
         Ca Try.prog (16 : Nat) #[Value.agg #[Value.int IntKind.i64 n1147, Value.int IntKind.i64 n1148, Value.int IntKind.i64 n1149, Value.slice p1150 k1151 k1152, Value.int IntKind.i64 n1153, Value.int IntKind.i64 n1154, Value.int IntKind.i64 n1155, Value.int IntKind.i64 n1156, Value.int IntKind.i64 n1157, Value.int IntKind.i64 n1158, Value.int IntKind.i64 n1159, Value.int IntKind.i64 n1160]] w1145 fun e1175 w1176 =>
         ∃ n1177 : Int,
         (
          e1175 = Ending.returned (Value.int IntKind.i64 n1177)) ∧
         (
          Row w1176 { block := b15, off := (0 : Nat) } (0 : Nat) [Value.int IntKind.i64 n1161, Value.int IntKind.i64 n1162, Value.int IntKind.i64 n1163, Value.slice p1164 k1165 k1166, Value.int IntKind.i64 n1167, Value.int IntKind.i64 n1168, Value.int IntKind.i64 n1169, Value.int IntKind.i64 n1170, Value.int IntKind.i64 n1171, Value.int IntKind.i64 n1172, Value.int IntKind.i64 n1173, Value.int IntKind.i64 n1174]) ∧
         Ca Try.prog (17 : Nat) #[Value.agg #[Value.int IntKind.i64 n1161, Value.int IntKind.i64 n1162, Value.int IntKind.i64 n1163, Value.slice p1164 k1165 k1166, Value.int IntKind.i64 n1167, Value.int IntKind.i64 n1168, Value.int IntKind.i64 n1169, Value.int IntKind.i64 n1170, Value.int IntKind.i64 n1171, Value.int IntKind.i64 n1172, Value.int IntKind.i64 n1173, Value.int IntKind.i64 n1174]] w1176 fun e1178 w1179 =>
         ∃ n1180 : Int,
         (
          e1178 = Ending.returned (Value.int IntKind.i64 n1180)) ∧
         Br (n1177 != n1180)
          (
           R (Ending.returned (Value.bool false)) w1179)
          (
           ∃ n1181 : Int,
           ∃ n1182 : Int,
           ∃ n1183 : Int,
           ∃ p1184 : Option Addr,
           ∃ k1185 : Nat,
           ∃ k1186 : Nat,
           ∃ n1187 : Int,
           ∃ n1188 : Int,
           ∃ n1189 : Int,
           ∃ n1190 : Int,
           ∃ n1191 : Int,
           ∃ n1192 : Int,
           ∃ n1193 : Int,
           ∃ n1194 : Int,
           (
            Row w1179 { block := b37, off := (0 : Nat) } (0 : Nat) [Value.int IntKind.i64 n1181, Value.int IntKind.i64 n1182, Value.int IntKind.i64 n1183, Value.slice p1184 k1185 k1186, Value.int IntKind.i64 n1187, Value.int IntKind.i64 n1188, Value.int IntKind.i64 n1189, Value.int IntKind.i64 n1190, Value.int IntKind.i64 n1191, Value.int IntKind.i64 n1192, Value.int IntKind.i64 n1193, Value.int IntKind.i64 n1194]) ∧
           Ca Try.prog (18 : Nat) #[Value.agg #[Value.int IntKind.i64 n1181, Value.int IntKind.i64 n1182, Value.int IntKind.i64 n1183, Value.slice p1184 k1185 k1186, Value.int IntKind.i64 n1187, Value.int IntKind.i64 n1188, Value.int IntKind.i64 n1189, Value.int IntKind.i64 n1190, Value.int IntKind.i64 n1191, Value.int IntKind.i64 n1192, Value.int IntKind.i64 n1193, Value.int IntKind.i64 n1194]] w1179 fun e1195 w1196 =>
           ∃ n1197 : Int,
           ∃ p1198 : Option Addr,
           ∃ k1199 : Nat,
           ∃ k1200 : Nat,
           ∃ n1201 : Int,
           ∃ n1202 : Int,
           (
            e1195 = Ending.returned (Value.tuple #[Value.agg #[Value.int IntKind.i64 n1197, Value.slice p1198 k1199 k1200, Value.int IntKind.i64 n1201], Value.int IntKind.i64 n1202])) ∧
           LetA (Obj.cells #[Value.int IntKind.i64 (0 : Int), Value.slice none (0 : Nat) (0 : Nat), Value.int IntKind.i64 (0 : Int)] (32 : Nat)) w1196 fun b1203 w1204 =>
           (
            WrRow w1204 { block := b1203, off := (0 : Nat) } (0 : Nat) [Value.int IntKind.i64 n1197, Value.slice p1198 k1199 k1200, Value.int IntKind.i64 n1201]) ∧
           LetW (setRow w1204 { block := b1203, off := (0 : Nat) } (0 : Nat) [Value.int IntKind.i64 n1197, Value.slice p1198 k1199 k1200, Value.int IntKind.i64 n1201]) fun w1205 =>
           ∃ n1206 : Int,
           ∃ n1207 : Int,
           ∃ n1208 : Int,
           ∃ p1209 : Option Addr,
           ∃ k1210 : Nat,
           ∃ k1211 : Nat,
           ∃ n1212 : Int,
           ∃ n1213 : Int,
           ∃ n1214 : Int,
           ∃ n1215 : Int,
           ∃ n1216 : Int,
           ∃ n1217 : Int,
           ∃ n1218 : Int,
           ∃ n1219 : Int,
           (
            Row w1205 { block := b15, off := (0 : Nat) } (0 : Nat) [Value.int IntKind.i64 n1206, Value.int IntKind.i64 n1207, Value.int IntKind.i64 n1208, Value.slice p1209 k1210 k1211, Value.int IntKind.i64 n1212, Value.int IntKind.i64 n1213, Value.int IntKind.i64 n1214, Value.int IntKind.i64 n1215, Value.int IntKind.i64 n1216, Value.int IntKind.i64 n1217, Value.int IntKind.i64 n1218, Value.int IntKind.i64 n1219]) ∧
           Ca Try.prog (19 : Nat) #[Value.agg #[Value.int IntKind.i64 n1206, Value.int IntKind.i64 n1207, Value.int IntKind.i64 n1208, Value.slice p1209 k1210 k1211, Value.int IntKind.i64 n1212, Value.int IntKind.i64 n1213, Value.int IntKind.i64 n1214, Value.int IntKind.i64 n1215, Value.int IntKind.i64 n1216, Value.int IntKind.i64 n1217, Value.int IntKind.i64 n1218, Value.int IntKind.i64 n1219]] w1205 fun e1220 w1221 =>
           ∃ n1222 : Int,
           ∃ p1223 : Option Addr,
           ∃ k1224 : Nat,
           ∃ k1225 : Nat,
           ∃ n1226 : Int,
           ∃ n1227 : Int,
           (
            e1220 = Ending.returned (Value.tuple #[Value.agg #[Value.int IntKind.i64 n1222, Value.slice p1223 k1224 k1225, Value.int IntKind.i64 n1226], Value.int IntKind.i64 n1227])) ∧
           LetA (Obj.cells #[Value.int IntKind.i64 (0 : Int), Value.slice none (0 : Nat) (0 : Nat), Value.int IntKind.i64 (0 : Int)] (32 : Nat)) w1221 fun b1228 w1229 =>
           (
            WrRow w1229 { block := b1228, off := (0 : Nat) } (0 : Nat) [Value.int IntKind.i64 n1222, Value.slice p1223 k1224 k1225, Value.int IntKind.i64 n1226]) ∧
           LetW (setRow w1229 { block := b1228, off := (0 : Nat) } (0 : Nat) [Value.int IntKind.i64 n1222, Value.slice p1223 k1224 k1225, Value.int IntKind.i64 n1226]) fun w1230 =>
           ∃ n1231 : Int,
           ∃ n1232 : Int,
           ∃ n1233 : Int,
           ∃ p1234 : Option Addr,
           ∃ k1235 : Nat,
           ∃ k1236 : Nat,
           ∃ n1237 : Int,
           ∃ n1238 : Int,
           ∃ n1239 : Int,
           ∃ n1240 : Int,
           ∃ n1241 : Int,
           ∃ n1242 : Int,
           ∃ n1243 : Int,
           ∃ n1244 : Int,
           (
            Row w1230 { block := b1081, off := (0 : Nat) } (0 : Nat) [Value.int IntKind.i64 n1231, Value.int IntKind.i64 n1232, Value.int IntKind.i64 n1233, Value.slice p1234 k1235 k1236, Value.int IntKind.i64 n1237, Value.int IntKind.i64 n1238, Value.int IntKind.i64 n1239, Value.int IntKind.i64 n1240, Value.int IntKind.i64 n1241, Value.int IntKind.i64 n1242, Value.int IntKind.i64 n1243, Value.int IntKind.i64 n1244]) ∧
           Ca Try.prog (18 : Nat) #[Value.agg #[Value.int IntKind.i64 n1231, Value.int IntKind.i64 n1232, Value.int IntKind.i64 n1233, Value.slice p1234 k1235 k1236, Value.int IntKind.i64 n1237, Value.int IntKind.i64 n1238, Value.int IntKind.i64 n1239, Value.int IntKind.i64 n1240, Value.int IntKind.i64 n1241, Value.int IntKind.i64 n1242, Value.int IntKind.i64 n1243, Value.int IntKind.i64 n1244]] w1230 fun e1245 w1246 =>
           ∃ n1247 : Int,
           ∃ p1248 : Option Addr,
           ∃ k1249 : Nat,
           ∃ k1250 : Nat,
           ∃ n1251 : Int,
           ∃ n1252 : Int,
           (
            e1245 = Ending.returned (Value.tuple #[Value.agg #[Value.int IntKind.i64 n1247, Value.slice p1248 k1249 k1250, Value.int IntKind.i64 n1251], Value.int IntKind.i64 n1252])) ∧
           LetA (Obj.cells #[Value.int IntKind.i64 (0 : Int), Value.slice none (0 : Nat) (0 : Nat), Value.int IntKind.i64 (0 : Int)] (32 : Nat)) w1246 fun b1253 w1254 =>
           (
            WrRow w1254 { block := b1253, off := (0 : Nat) } (0 : Nat) [Value.int IntKind.i64 n1247, Value.slice p1248 k1249 k1250, Value.int IntKind.i64 n1251]) ∧
           LetW (setRow w1254 { block := b1253, off := (0 : Nat) } (0 : Nat) [Value.int IntKind.i64 n1247, Value.slice p1248 k1249 k1250, Value.int IntKind.i64 n1251]) fun w1255 =>
           ∃ n1256 : Int,
           ∃ n1257 : Int,
           ∃ n1258 : Int,
           ∃ p1259 : Option Addr,
           ∃ k1260 : Nat,
           ∃ k1261 : Nat,
           ∃ n1262 : Int,
           ∃ n1263 : Int,
           ∃ n1264 : Int,
           ∃ n1265 : Int,
           ∃ n1266 : Int,
           ∃ n1267 : Int,
           ∃ n1268 : Int,
           ∃ n1269 : Int,
           (
            Row w1255 { block := b1063, off := (0 : Nat) } (0 : Nat) [Value.int IntKind.i64 n1256, Value.int IntKind.i64 n1257, Value.int IntKind.i64 n1258, Value.slice p1259 k1260 k1261, Value.int IntKind.i64 n1262, Value.int IntKind.i64 n1263, Value.int IntKind.i64 n1264, Value.int IntKind.i64 n1265, Value.int IntKind.i64 n1266, Value.int IntKind.i64 n1267, Value.int IntKind.i64 n1268, Value.int IntKind.i64 n1269]) ∧
           Ca Try.prog (19 : Nat) #[Value.agg #[Value.int IntKind.i64 n1256, Value.int IntKind.i64 n1257, Value.int IntKind.i64 n1258, Value.slice p1259 k1260 k1261, Value.int IntKind.i64 n1262, Value.int IntKind.i64 n1263, Value.int IntKind.i64 n1264, Value.int IntKind.i64 n1265, Value.int IntKind.i64 n1266, Value.int IntKind.i64 n1267, Value.int IntKind.i64 n1268, Value.int IntKind.i64 n1269]] w1255 fun e1270 w1271 =>
           ∃ n1272 : Int,
           ∃ p1273 : Option Addr,
           ∃ k1274 : Nat,
           ∃ k1275 : Nat,
           ∃ n1276 : Int,
           ∃ n1277 : Int,
           (
            e1270 = Ending.returned (Value.tuple #[Value.agg #[Value.int IntKind.i64 n1272, Value.slice p1273 k1274 k1275, Value.int IntKind.i64 n1276], Value.int IntKind.i64 n1277])) ∧
           LetA (Obj.cells #[Value.int IntKind.i64 (0 : Int), Value.slice none (0 : Nat) (0 : Nat), Value.int IntKind.i64 (0 : Int)] (32 : Nat)) w1271 fun b1278 w1279 =>
           (
            WrRow w1279 { block := b1278, off := (0 : Nat) } (0 : Nat) [Value.int IntKind.i64 n1272, Value.slice p1273 k1274 k1275, Value.int IntKind.i64 n1276]) ∧
           LetW (setRow w1279 { block := b1278, off := (0 : Nat) } (0 : Nat) [Value.int IntKind.i64 n1272, Value.slice p1273 k1274 k1275, Value.int IntKind.i64 n1276]) fun w1280 =>
           ∃ n1281 : Int,
           ∃ p1282 : Option Addr,
           ∃ k1283 : Nat,
           ∃ k1284 : Nat,
           ∃ n1285 : Int,
           (
            Row w1280 { block := b1203, off := (0 : Nat) } (0 : Nat) [Value.int IntKind.i64 n1281, Value.slice p1282 k1283 k1284, Value.int IntKind.i64 n1285]) ∧
           ∃ n1286 : Int,
           ∃ p1287 : Option Addr,
           ∃ k1288 : Nat,
           ∃ k1289 : Nat,
           ∃ n1290 : Int,
           (
            Row w1280 { block := b1228, off := (0 : Nat) } (0 : Nat) [Value.int IntKind.i64 n1286, Value.slice p1287 k1288 k1289, Value.int IntKind.i64 n1290]) ∧
           Ca Try.prog (20 : Nat) #[Value.agg #[Value.int IntKind.i64 n1281, Value.slice p1282 k1283 k1284, Value.int IntKind.i64 n1285], Value.agg #[Value.int IntKind.i64 n1286, Value.slice p1287 k1288 k1289, Value.int IntKind.i64 n1290]] w1280 fun e1291 w1292 =>
           ∃ b1293 : Bool,
           (
            e1291 = Ending.returned (Value.bool b1293)) ∧
           Br (b1293)
            (
             Br (n1202 == n1227)
              (
               ∃ n1294 : Int,
               ∃ p1295 : Option Addr,
               ∃ k1296 : Nat,
               ∃ k1297 : Nat,
               ∃ n1298 : Int,
               (
                Row w1292 { block := b1253, off := (0 : Nat) } (0 : Nat) [Value.int IntKind.i64 n1294, Value.slice p1295 k1296 k1297, Value.int IntKind.i64 n1298]) ∧
               ∃ n1299 : Int,
               ∃ p1300 : Option Addr,
               ∃ k1301 : Nat,
               ∃ k1302 : Nat,
               ∃ n1303 : Int,
               (
                Row w1292 { block := b1278, off := (0 : Nat) } (0 : Nat) [Value.int IntKind.i64 n1299, Value.slice p1300 k1301 k1302, Value.int IntKind.i64 n1303]) ∧
               Ca Try.prog (20 : Nat) #[Value.agg #[Value.int IntKind.i64 n1294, Value.slice p1295 k1296 k1297, Value.int IntKind.i64 n1298], Value.agg #[Value.int IntKind.i64 n1299, Value.slice p1300 k1301 k1302, Value.int IntKind.i64 n1303]] w1292 fun e1304 w1305 =>
               ∃ b1306 : Bool,
               (
                e1304 = Ending.returned (Value.bool b1306)) ∧
               Br (b1306)
                (
                 Br (n1252 == n1277)
                  (
                   Ca Try.prog (12 : Nat) #[] w1305 fun e1307 w1308 =>
                   ∃ b1309 : Bool,
                   (
                    e1307 = Ending.returned (Value.bool b1309)) ∧
                   R (Ending.returned (Value.bool b1309)) w1308)
                  (
                   R (Ending.returned (Value.bool false)) w1305))
                (
                 R (Ending.returned (Value.bool false)) w1305))
              (
               R (Ending.returned (Value.bool false)) w1292))
            (
             R (Ending.returned (Value.bool false)) w1292))))) ∧
    LetA (Obj.cells #[Value.int IntKind.i64 (0 : Int), Value.int IntKind.i64 (0 : Int), Value.int IntKind.i64 (0 : Int), Value.slice none (0 : Nat) (0 : Nat), Value.int IntKind.i64 (0 : Int), Value.int IntKind.i64 (0 : Int), Value.int IntKind.i64 (0 : Int), Value.int IntKind.i64 (0 : Int), Value.int IntKind.i64 (0 : Int), Value.int IntKind.i64 (0 : Int), Value.int IntKind.i64 (0 : Int), Value.int IntKind.i64 (0 : Int)] (24 : Nat)) w1064 fun b1310 w1311 =>
    (
     Row w1311 { block := b15, off := (0 : Nat) } (0 : Nat) [Value.int IntKind.i64 n63, Value.int IntKind.i64 n64, Value.int IntKind.i64 n65, Value.slice p66 k67 k68, Value.int IntKind.i64 n69, Value.int IntKind.i64 n70, Value.int IntKind.i64 n71, Value.int IntKind.i64 n72, Value.int IntKind.i64 n73, Value.int IntKind.i64 n74, Value.int IntKind.i64 n75, Value.int IntKind.i64 n76]) ∧
    Ca Try.prog (14 : Nat) #[Value.agg #[Value.int IntKind.i64 n63, Value.int IntKind.i64 n64, Value.int IntKind.i64 n65, Value.slice p66 k67 k68, Value.int IntKind.i64 n69, Value.int IntKind.i64 n70, Value.int IntKind.i64 n71, Value.int IntKind.i64 n72, Value.int IntKind.i64 n73, Value.int IntKind.i64 n74, Value.int IntKind.i64 n75, Value.int IntKind.i64 n76]] w1311 fun e1312 w1313 =>
    ∃ n1314 : Int,
    ∃ n1315 : Int,
    ∃ n1316 : Int,
    ∃ p1317 : Option Addr,
    ∃ k1318 : Nat,
    ∃ k1319 : Nat,
    ∃ n1320 : Int,
    ∃ n1321 : Int,
    ∃ n1322 : Int,
    ∃ n1323 : Int,
    ∃ n1324 : Int,
    ∃ n1325 : Int,
    ∃ n1326 : Int,
    ∃ n1327 : Int,
    (
     e1312 = Ending.returned (Value.agg #[Value.int IntKind.i64 n1314, Value.int IntKind.i64 n1315, Value.int IntKind.i64 n1316, Value.slice p1317 k1318 k1319, Value.int IntKind.i64 n1320, Value.int IntKind.i64 n1321, Value.int IntKind.i64 n1322, Value.int IntKind.i64 n1323, Value.int IntKind.i64 n1324, Value.int IntKind.i64 n1325, Value.int IntKind.i64 n1326, Value.int IntKind.i64 n1327])) ∧
    (
     WrRow w1313 { block := b1310, off := (0 : Nat) } (0 : Nat) [Value.int IntKind.i64 n79, Value.int IntKind.i64 n80, Value.int IntKind.i64 n81, Value.slice p82 k83 k84, Value.int IntKind.i64 n85, Value.int IntKind.i64 n86, Value.int IntKind.i64 n87, Value.int IntKind.i64 n88, Value.int IntKind.i64 n89, Value.int IntKind.i64 n90, Value.int IntKind.i64 n91, Value.int IntKind.i64 n92]) ∧
    LetW (setRow w1313 { block := b1310, off := (0 : Nat) } (0 : Nat) [Value.int IntKind.i64 n79, Value.int IntKind.i64 n80, Value.int IntKind.i64 n81, Value.slice p82 k83 k84, Value.int IntKind.i64 n85, Value.int IntKind.i64 n86, Value.int IntKind.i64 n87, Value.int IntKind.i64 n88, Value.int IntKind.i64 n89, Value.int IntKind.i64 n90, Value.int IntKind.i64 n91, Value.int IntKind.i64 n92]) fun w1328 =>
    (
     WrRow w1328 { block := b1063, off := (0 : Nat) } (0 : Nat) [Value.int IntKind.i64 n1314, Value.int IntKind.i64 n1315, Value.int IntKind.i64 n1316, Value.slice p1317 k1318 k1319, Value.int IntKind.i64 n1320, Value.int IntKind.i64 n1321, Value.int IntKind.i64 n1322, Value.int IntKind.i64 n1323, Value.int IntKind.i64 n1324, Value.int IntKind.i64 n1325, Value.int IntKind.i64 n1326, Value.int IntKind.i64 n1327]) ∧
    LetW (setRow w1328 { block := b1063, off := (0 : Nat) } (0 : Nat) [Value.int IntKind.i64 n1314, Value.int IntKind.i64 n1315, Value.int IntKind.i64 n1316, Value.slice p1317 k1318 k1319, Value.int IntKind.i64 n1320, Value.int IntKind.i64 n1321, Value.int IntKind.i64 n1322, Value.int IntKind.i64 n1323, Value.int IntKind.i64 n1324, Value.int IntKind.i64 n1325, Value.int IntKind.i64 n1326, Value.int IntKind.i64 n1327]) fun w1329 =>
    ∃ n1330 : Int,
    ∃ n1331 : Int,
    ∃ n1332 : Int,
    ∃ p1333 : Option Addr,
    ∃ k1334 : Nat,
    ∃ k1335 : Nat,
    ∃ n1336 : Int,
    ∃ n1337 : Int,
    ∃ n1338 : Int,
    ∃ n1339 : Int,
    ∃ n1340 : Int,
    ∃ n1341 : Int,
    ∃ n1342 : Int,
    ∃ n1343 : Int,
    (
     Row w1329 { block := b1310, off := (0 : Nat) } (0 : Nat) [Value.int IntKind.i64 n1330, Value.int IntKind.i64 n1331, Value.int IntKind.i64 n1332, Value.slice p1333 k1334 k1335, Value.int IntKind.i64 n1336, Value.int IntKind.i64 n1337, Value.int IntKind.i64 n1338, Value.int IntKind.i64 n1339, Value.int IntKind.i64 n1340, Value.int IntKind.i64 n1341, Value.int IntKind.i64 n1342, Value.int IntKind.i64 n1343]) ∧
    ∃ n1344 : Int,
    ∃ n1345 : Int,
    ∃ n1346 : Int,
    ∃ p1347 : Option Addr,
    ∃ k1348 : Nat,
    ∃ k1349 : Nat,
    ∃ n1350 : Int,
    ∃ n1351 : Int,
    ∃ n1352 : Int,
    ∃ n1353 : Int,
    ∃ n1354 : Int,
    ∃ n1355 : Int,
    ∃ n1356 : Int,
    ∃ n1357 : Int,
    (
     Row w1329 { block := b1063, off := (0 : Nat) } (0 : Nat) [Value.int IntKind.i64 n1344, Value.int IntKind.i64 n1345, Value.int IntKind.i64 n1346, Value.slice p1347 k1348 k1349, Value.int IntKind.i64 n1350, Value.int IntKind.i64 n1351, Value.int IntKind.i64 n1352, Value.int IntKind.i64 n1353, Value.int IntKind.i64 n1354, Value.int IntKind.i64 n1355, Value.int IntKind.i64 n1356, Value.int IntKind.i64 n1357]) ∧
    Ca Try.prog (15 : Nat) #[Value.agg #[Value.int IntKind.i64 n1330, Value.int IntKind.i64 n1331, Value.int IntKind.i64 n1332, Value.slice p1333 k1334 k1335, Value.int IntKind.i64 n1336, Value.int IntKind.i64 n1337, Value.int IntKind.i64 n1338, Value.int IntKind.i64 n1339, Value.int IntKind.i64 n1340, Value.int IntKind.i64 n1341, Value.int IntKind.i64 n1342, Value.int IntKind.i64 n1343], Value.agg #[Value.int IntKind.i64 n1344, Value.int IntKind.i64 n1345, Value.int IntKind.i64 n1346, Value.slice p1347 k1348 k1349, Value.int IntKind.i64 n1350, Value.int IntKind.i64 n1351, Value.int IntKind.i64 n1352, Value.int IntKind.i64 n1353, Value.int IntKind.i64 n1354, Value.int IntKind.i64 n1355, Value.int IntKind.i64 n1356, Value.int IntKind.i64 n1357]] w1329 fun e1358 w1359 =>
    ∃ b1360 : Bool,
    (
     e1358 = Ending.returned (Value.bool b1360)) ∧
    Br (!b1360)
     (
      R (Ending.returned (Value.bool false)) w1359)
     (
      ∃ n1361 : Int,
      ∃ n1362 : Int,
      ∃ n1363 : Int,
      ∃ p1364 : Option Addr,
      ∃ k1365 : Nat,
      ∃ k1366 : Nat,
      ∃ n1367 : Int,
      ∃ n1368 : Int,
      ∃ n1369 : Int,
      ∃ n1370 : Int,
      ∃ n1371 : Int,
      ∃ n1372 : Int,
      ∃ n1373 : Int,
      ∃ n1374 : Int,
      (
       Row w1359 { block := b37, off := (0 : Nat) } (0 : Nat) [Value.int IntKind.i64 n1361, Value.int IntKind.i64 n1362, Value.int IntKind.i64 n1363, Value.slice p1364 k1365 k1366, Value.int IntKind.i64 n1367, Value.int IntKind.i64 n1368, Value.int IntKind.i64 n1369, Value.int IntKind.i64 n1370, Value.int IntKind.i64 n1371, Value.int IntKind.i64 n1372, Value.int IntKind.i64 n1373, Value.int IntKind.i64 n1374]) ∧
      ∃ n1375 : Int,
      ∃ n1376 : Int,
      ∃ n1377 : Int,
      ∃ p1378 : Option Addr,
      ∃ k1379 : Nat,
      ∃ k1380 : Nat,
      ∃ n1381 : Int,
      ∃ n1382 : Int,
      ∃ n1383 : Int,
      ∃ n1384 : Int,
      ∃ n1385 : Int,
      ∃ n1386 : Int,
      ∃ n1387 : Int,
      ∃ n1388 : Int,
      (
       Row w1359 { block := b15, off := (0 : Nat) } (0 : Nat) [Value.int IntKind.i64 n1375, Value.int IntKind.i64 n1376, Value.int IntKind.i64 n1377, Value.slice p1378 k1379 k1380, Value.int IntKind.i64 n1381, Value.int IntKind.i64 n1382, Value.int IntKind.i64 n1383, Value.int IntKind.i64 n1384, Value.int IntKind.i64 n1385, Value.int IntKind.i64 n1386, Value.int IntKind.i64 n1387, Value.int IntKind.i64 n1388]) ∧
      Ca Try.prog (15 : Nat) #[Value.agg #[Value.int IntKind.i64 n1361, Value.int IntKind.i64 n1362, Value.int IntKind.i64 n1363, Value.slice p1364 k1365 k1366, Value.int IntKind.i64 n1367, Value.int IntKind.i64 n1368, Value.int IntKind.i64 n1369, Value.int IntKind.i64 n1370, Value.int IntKind.i64 n1371, Value.int IntKind.i64 n1372, Value.int IntKind.i64 n1373, Value.int IntKind.i64 n1374], Value.agg #[Value.int IntKind.i64 n1375, Value.int IntKind.i64 n1376, Value.int IntKind.i64 n1377, Value.slice p1378 k1379 k1380, Value.int IntKind.i64 n1381, Value.int IntKind.i64 n1382, Value.int IntKind.i64 n1383, Value.int IntKind.i64 n1384, Value.int IntKind.i64 n1385, Value.int IntKind.i64 n1386, Value.int IntKind.i64 n1387, Value.int IntKind.i64 n1388]] w1359 fun e1389 w1390 =>
      ∃ b1391 : Bool,
      (
       e1389 = Ending.returned (Value.bool b1391)) ∧
      Br (!b1391)
       (
        R (Ending.returned (Value.bool false)) w1390)
       (
        ∃ n1392 : Int,
        ∃ n1393 : Int,
        ∃ n1394 : Int,
        ∃ p1395 : Option Addr,
        ∃ k1396 : Nat,
        ∃ k1397 : Nat,
        ∃ n1398 : Int,
        ∃ n1399 : Int,
        ∃ n1400 : Int,
        ∃ n1401 : Int,
        ∃ n1402 : Int,
        ∃ n1403 : Int,
        ∃ n1404 : Int,
        ∃ n1405 : Int,
        (
         Row w1390 { block := b37, off := (0 : Nat) } (0 : Nat) [Value.int IntKind.i64 n1392, Value.int IntKind.i64 n1393, Value.int IntKind.i64 n1394, Value.slice p1395 k1396 k1397, Value.int IntKind.i64 n1398, Value.int IntKind.i64 n1399, Value.int IntKind.i64 n1400, Value.int IntKind.i64 n1401, Value.int IntKind.i64 n1402, Value.int IntKind.i64 n1403, Value.int IntKind.i64 n1404, Value.int IntKind.i64 n1405]) ∧
        ∃ n1406 : Int,
        ∃ n1407 : Int,
        ∃ n1408 : Int,
        ∃ p1409 : Option Addr,
        ∃ k1410 : Nat,
        ∃ k1411 : Nat,
        ∃ n1412 : Int,
        ∃ n1413 : Int,
        ∃ n1414 : Int,
        ∃ n1415 : Int,
        ∃ n1416 : Int,
        ∃ n1417 : Int,
        ∃ n1418 : Int,
        ∃ n1419 : Int,
        (
         Row w1390 { block := b15, off := (0 : Nat) } (0 : Nat) [Value.int IntKind.i64 n1406, Value.int IntKind.i64 n1407, Value.int IntKind.i64 n1408, Value.slice p1409 k1410 k1411, Value.int IntKind.i64 n1412, Value.int IntKind.i64 n1413, Value.int IntKind.i64 n1414, Value.int IntKind.i64 n1415, Value.int IntKind.i64 n1416, Value.int IntKind.i64 n1417, Value.int IntKind.i64 n1418, Value.int IntKind.i64 n1419]) ∧
        Ca Try.prog (16 : Nat) #[Value.agg #[Value.int IntKind.i64 n1392, Value.int IntKind.i64 n1393, Value.int IntKind.i64 n1394, Value.slice p1395 k1396 k1397, Value.int IntKind.i64 n1398, Value.int IntKind.i64 n1399, Value.int IntKind.i64 n1400, Value.int IntKind.i64 n1401, Value.int IntKind.i64 n1402, Value.int IntKind.i64 n1403, Value.int IntKind.i64 n1404, Value.int IntKind.i64 n1405]] w1390 fun e1420 w1421 =>
        ∃ n1422 : Int,
        (
         e1420 = Ending.returned (Value.int IntKind.i64 n1422)) ∧
        (
         Row w1421 { block := b15, off := (0 : Nat) } (0 : Nat) [Value.int IntKind.i64 n1406, Value.int IntKind.i64 n1407, Value.int IntKind.i64 n1408, Value.slice p1409 k1410 k1411, Value.int IntKind.i64 n1412, Value.int IntKind.i64 n1413, Value.int IntKind.i64 n1414, Value.int IntKind.i64 n1415, Value.int IntKind.i64 n1416, Value.int IntKind.i64 n1417, Value.int IntKind.i64 n1418, Value.int IntKind.i64 n1419]) ∧
        Ca Try.prog (17 : Nat) #[Value.agg #[Value.int IntKind.i64 n1406, Value.int IntKind.i64 n1407, Value.int IntKind.i64 n1408, Value.slice p1409 k1410 k1411, Value.int IntKind.i64 n1412, Value.int IntKind.i64 n1413, Value.int IntKind.i64 n1414, Value.int IntKind.i64 n1415, Value.int IntKind.i64 n1416, Value.int IntKind.i64 n1417, Value.int IntKind.i64 n1418, Value.int IntKind.i64 n1419]] w1421 fun e1423 w1424 =>
        ∃ n1425 : Int,
        (
         e1423 = Ending.returned (Value.int IntKind.i64 n1425)) ∧
        Br (n1422 != n1425)
         (
          R (Ending.returned (Value.bool false)) w1424)
         (
          ∃ n1426 : Int,
          ∃ n1427 : Int,
          ∃ n1428 : Int,
          ∃ p1429 : Option Addr,
          ∃ k1430 : Nat,
          ∃ k1431 : Nat,
          ∃ n1432 : Int,
          ∃ n1433 : Int,
          ∃ n1434 : Int,
          ∃ n1435 : Int,
          ∃ n1436 : Int,
          ∃ n1437 : Int,
          ∃ n1438 : Int,
          ∃ n1439 : Int,
          (
           Row w1424 { block := b37, off := (0 : Nat) } (0 : Nat) [Value.int IntKind.i64 n1426, Value.int IntKind.i64 n1427, Value.int IntKind.i64 n1428, Value.slice p1429 k1430 k1431, Value.int IntKind.i64 n1432, Value.int IntKind.i64 n1433, Value.int IntKind.i64 n1434, Value.int IntKind.i64 n1435, Value.int IntKind.i64 n1436, Value.int IntKind.i64 n1437, Value.int IntKind.i64 n1438, Value.int IntKind.i64 n1439]) ∧
          Ca Try.prog (18 : Nat) #[Value.agg #[Value.int IntKind.i64 n1426, Value.int IntKind.i64 n1427, Value.int IntKind.i64 n1428, Value.slice p1429 k1430 k1431, Value.int IntKind.i64 n1432, Value.int IntKind.i64 n1433, Value.int IntKind.i64 n1434, Value.int IntKind.i64 n1435, Value.int IntKind.i64 n1436, Value.int IntKind.i64 n1437, Value.int IntKind.i64 n1438, Value.int IntKind.i64 n1439]] w1424 fun e1440 w1441 =>
          ∃ n1442 : Int,
          ∃ p1443 : Option Addr,
          ∃ k1444 : Nat,
          ∃ k1445 : Nat,
          ∃ n1446 : Int,
          ∃ n1447 : Int,
          (
           e1440 = Ending.returned (Value.tuple #[Value.agg #[Value.int IntKind.i64 n1442, Value.slice p1443 k1444 k1445, Value.int IntKind.i64 n1446], Value.int IntKind.i64 n1447])) ∧
          LetA (Obj.cells #[Value.int IntKind.i64 (0 : Int), Value.slice none (0 : Nat) (0 : Nat), Value.int IntKind.i64 (0 : Int)] (32 : Nat)) w1441 fun b1448 w1449 =>
          (
           WrRow w1449 { block := b1448, off := (0 : Nat) } (0 : Nat) [Value.int IntKind.i64 n1442, Value.slice p1443 k1444 k1445, Value.int IntKind.i64 n1446]) ∧
          LetW (setRow w1449 { block := b1448, off := (0 : Nat) } (0 : Nat) [Value.int IntKind.i64 n1442, Value.slice p1443 k1444 k1445, Value.int IntKind.i64 n1446]) fun w1450 =>
          ∃ n1451 : Int,
          ∃ n1452 : Int,
          ∃ n1453 : Int,
          ∃ p1454 : Option Addr,
          ∃ k1455 : Nat,
          ∃ k1456 : Nat,
          ∃ n1457 : Int,
          ∃ n1458 : Int,
          ∃ n1459 : Int,
          ∃ n1460 : Int,
          ∃ n1461 : Int,
          ∃ n1462 : Int,
          ∃ n1463 : Int,
          ∃ n1464 : Int,
          (
           Row w1450 { block := b15, off := (0 : Nat) } (0 : Nat) [Value.int IntKind.i64 n1451, Value.int IntKind.i64 n1452, Value.int IntKind.i64 n1453, Value.slice p1454 k1455 k1456, Value.int IntKind.i64 n1457, Value.int IntKind.i64 n1458, Value.int IntKind.i64 n1459, Value.int IntKind.i64 n1460, Value.int IntKind.i64 n1461, Value.int IntKind.i64 n1462, Value.int IntKind.i64 n1463, Value.int IntKind.i64 n1464]) ∧
          Ca Try.prog (19 : Nat) #[Value.agg #[Value.int IntKind.i64 n1451, Value.int IntKind.i64 n1452, Value.int IntKind.i64 n1453, Value.slice p1454 k1455 k1456, Value.int IntKind.i64 n1457, Value.int IntKind.i64 n1458, Value.int IntKind.i64 n1459, Value.int IntKind.i64 n1460, Value.int IntKind.i64 n1461, Value.int IntKind.i64 n1462, Value.int IntKind.i64 n1463, Value.int IntKind.i64 n1464]] w1450 fun e1465 w1466 =>
          ∃ n1467 : Int,
          ∃ p1468 : Option Addr,
          ∃ k1469 : Nat,
          ∃ k1470 : Nat,
          ∃ n1471 : Int,
          ∃ n1472 : Int,
          (
           e1465 = Ending.returned (Value.tuple #[Value.agg #[Value.int IntKind.i64 n1467, Value.slice p1468 k1469 k1470, Value.int IntKind.i64 n1471], Value.int IntKind.i64 n1472])) ∧
          LetA (Obj.cells #[Value.int IntKind.i64 (0 : Int), Value.slice none (0 : Nat) (0 : Nat), Value.int IntKind.i64 (0 : Int)] (32 : Nat)) w1466 fun b1473 w1474 =>
          (
           WrRow w1474 { block := b1473, off := (0 : Nat) } (0 : Nat) [Value.int IntKind.i64 n1467, Value.slice p1468 k1469 k1470, Value.int IntKind.i64 n1471]) ∧
          LetW (setRow w1474 { block := b1473, off := (0 : Nat) } (0 : Nat) [Value.int IntKind.i64 n1467, Value.slice p1468 k1469 k1470, Value.int IntKind.i64 n1471]) fun w1475 =>
          ∃ n1476 : Int,
          ∃ n1477 : Int,
          ∃ n1478 : Int,
          ∃ p1479 : Option Addr,
          ∃ k1480 : Nat,
          ∃ k1481 : Nat,
          ∃ n1482 : Int,
          ∃ n1483 : Int,
          ∃ n1484 : Int,
          ∃ n1485 : Int,
          ∃ n1486 : Int,
          ∃ n1487 : Int,
          ∃ n1488 : Int,
          ∃ n1489 : Int,
          (
           Row w1475 { block := b1310, off := (0 : Nat) } (0 : Nat) [Value.int IntKind.i64 n1476, Value.int IntKind.i64 n1477, Value.int IntKind.i64 n1478, Value.slice p1479 k1480 k1481, Value.int IntKind.i64 n1482, Value.int IntKind.i64 n1483, Value.int IntKind.i64 n1484, Value.int IntKind.i64 n1485, Value.int IntKind.i64 n1486, Value.int IntKind.i64 n1487, Value.int IntKind.i64 n1488, Value.int IntKind.i64 n1489]) ∧
          Ca Try.prog (18 : Nat) #[Value.agg #[Value.int IntKind.i64 n1476, Value.int IntKind.i64 n1477, Value.int IntKind.i64 n1478, Value.slice p1479 k1480 k1481, Value.int IntKind.i64 n1482, Value.int IntKind.i64 n1483, Value.int IntKind.i64 n1484, Value.int IntKind.i64 n1485, Value.int IntKind.i64 n1486, Value.int IntKind.i64 n1487, Value.int IntKind.i64 n1488, Value.int IntKind.i64 n1489]] w1475 fun e1490 w1491 =>
          ∃ n1492 : Int,
          ∃ p1493 : Option Addr,
          ∃ k1494 : Nat,
          ∃ k1495 : Nat,
          ∃ n1496 : Int,
          ∃ n1497 : Int,
          (
           e1490 = Ending.returned (Value.tuple #[Value.agg #[Value.int IntKind.i64 n1492, Value.slice p1493 k1494 k1495, Value.int IntKind.i64 n1496], Value.int IntKind.i64 n1497])) ∧
          LetA (Obj.cells #[Value.int IntKind.i64 (0 : Int), Value.slice none (0 : Nat) (0 : Nat), Value.int IntKind.i64 (0 : Int)] (32 : Nat)) w1491 fun b1498 w1499 =>
          (
           WrRow w1499 { block := b1498, off := (0 : Nat) } (0 : Nat) [Value.int IntKind.i64 n1492, Value.slice p1493 k1494 k1495, Value.int IntKind.i64 n1496]) ∧
          LetW (setRow w1499 { block := b1498, off := (0 : Nat) } (0 : Nat) [Value.int IntKind.i64 n1492, Value.slice p1493 k1494 k1495, Value.int IntKind.i64 n1496]) fun w1500 =>
          ∃ n1501 : Int,
          ∃ n1502 : Int,
          ∃ n1503 : Int,
          ∃ p1504 : Option Addr,
          ∃ k1505 : Nat,
          ∃ k1506 : Nat,
          ∃ n1507 : Int,
          ∃ n1508 : Int,
          ∃ n1509 : Int,
          ∃ n1510 : Int,
          ∃ n1511 : Int,
          ∃ n1512 : Int,
          ∃ n1513 : Int,
          ∃ n1514 : Int,
          (
           Row w1500 { block := b1063, off := (0 : Nat) } (0 : Nat) [Value.int IntKind.i64 n1501, Value.int IntKind.i64 n1502, Value.int IntKind.i64 n1503, Value.slice p1504 k1505 k1506, Value.int IntKind.i64 n1507, Value.int IntKind.i64 n1508, Value.int IntKind.i64 n1509, Value.int IntKind.i64 n1510, Value.int IntKind.i64 n1511, Value.int IntKind.i64 n1512, Value.int IntKind.i64 n1513, Value.int IntKind.i64 n1514]) ∧
          Ca Try.prog (19 : Nat) #[Value.agg #[Value.int IntKind.i64 n1501, Value.int IntKind.i64 n1502, Value.int IntKind.i64 n1503, Value.slice p1504 k1505 k1506, Value.int IntKind.i64 n1507, Value.int IntKind.i64 n1508, Value.int IntKind.i64 n1509, Value.int IntKind.i64 n1510, Value.int IntKind.i64 n1511, Value.int IntKind.i64 n1512, Value.int IntKind.i64 n1513, Value.int IntKind.i64 n1514]] w1500 fun e1515 w1516 =>
          ∃ n1517 : Int,
          ∃ p1518 : Option Addr,
          ∃ k1519 : Nat,
          ∃ k1520 : Nat,
          ∃ n1521 : Int,
          ∃ n1522 : Int,
          (
           e1515 = Ending.returned (Value.tuple #[Value.agg #[Value.int IntKind.i64 n1517, Value.slice p1518 k1519 k1520, Value.int IntKind.i64 n1521], Value.int IntKind.i64 n1522])) ∧
          LetA (Obj.cells #[Value.int IntKind.i64 (0 : Int), Value.slice none (0 : Nat) (0 : Nat), Value.int IntKind.i64 (0 : Int)] (32 : Nat)) w1516 fun b1523 w1524 =>
          (
           WrRow w1524 { block := b1523, off := (0 : Nat) } (0 : Nat) [Value.int IntKind.i64 n1517, Value.slice p1518 k1519 k1520, Value.int IntKind.i64 n1521]) ∧
          LetW (setRow w1524 { block := b1523, off := (0 : Nat) } (0 : Nat) [Value.int IntKind.i64 n1517, Value.slice p1518 k1519 k1520, Value.int IntKind.i64 n1521]) fun w1525 =>
          ∃ n1526 : Int,
          ∃ p1527 : Option Addr,
          ∃ k1528 : Nat,
          ∃ k1529 : Nat,
          ∃ n1530 : Int,
          (
           Row w1525 { block := b1448, off := (0 : Nat) } (0 : Nat) [Value.int IntKind.i64 n1526, Value.slice p1527 k1528 k1529, Value.int IntKind.i64 n1530]) ∧
          ∃ n1531 : Int,
          ∃ p1532 : Option Addr,
          ∃ k1533 : Nat,
          ∃ k1534 : Nat,
          ∃ n1535 : Int,
          (
           Row w1525 { block := b1473, off := (0 : Nat) } (0 : Nat) [Value.int IntKind.i64 n1531, Value.slice p1532 k1533 k1534, Value.int IntKind.i64 n1535]) ∧
          Ca Try.prog (20 : Nat) #[Value.agg #[Value.int IntKind.i64 n1526, Value.slice p1527 k1528 k1529, Value.int IntKind.i64 n1530], Value.agg #[Value.int IntKind.i64 n1531, Value.slice p1532 k1533 k1534, Value.int IntKind.i64 n1535]] w1525 fun e1536 w1537 =>
          ∃ b1538 : Bool,
          (
           e1536 = Ending.returned (Value.bool b1538)) ∧
          Br (b1538)
           (
            Br (n1447 == n1472)
             (
              ∃ n1539 : Int,
              ∃ p1540 : Option Addr,
              ∃ k1541 : Nat,
              ∃ k1542 : Nat,
              ∃ n1543 : Int,
              (
               Row w1537 { block := b1498, off := (0 : Nat) } (0 : Nat) [Value.int IntKind.i64 n1539, Value.slice p1540 k1541 k1542, Value.int IntKind.i64 n1543]) ∧
              ∃ n1544 : Int,
              ∃ p1545 : Option Addr,
              ∃ k1546 : Nat,
              ∃ k1547 : Nat,
              ∃ n1548 : Int,
              (
               Row w1537 { block := b1523, off := (0 : Nat) } (0 : Nat) [Value.int IntKind.i64 n1544, Value.slice p1545 k1546 k1547, Value.int IntKind.i64 n1548]) ∧
              Ca Try.prog (20 : Nat) #[Value.agg #[Value.int IntKind.i64 n1539, Value.slice p1540 k1541 k1542, Value.int IntKind.i64 n1543], Value.agg #[Value.int IntKind.i64 n1544, Value.slice p1545 k1546 k1547, Value.int IntKind.i64 n1548]] w1537 fun e1549 w1550 =>
              ∃ b1551 : Bool,
              (
               e1549 = Ending.returned (Value.bool b1551)) ∧
              Br (b1551)
               (
                Br (n1497 == n1522)
                 (
                  Ca Try.prog (12 : Nat) #[] w1550 fun e1552 w1553 =>
                  ∃ b1554 : Bool,
                  (
                   e1552 = Ending.returned (Value.bool b1554)) ∧
                  R (Ending.returned (Value.bool b1554)) w1553)
                 (
                  R (Ending.returned (Value.bool false)) w1550))
               (
                R (Ending.returned (Value.bool false)) w1550))
             (
              R (Ending.returned (Value.bool false)) w1537))
           (
            R (Ending.returned (Value.bool false)) w1537))))) ∧
   (
    LetA (Obj.cells #[Value.int IntKind.i64 (0 : Int), Value.int IntKind.i64 (0 : Int), Value.int IntKind.i64 (0 : Int), Value.slice none (0 : Nat) (0 : Nat), Value.int IntKind.i64 (0 : Int), Value.int IntKind.i64 (0 : Int), Value.int IntKind.i64 (0 : Int), Value.int IntKind.i64 (0 : Int), Value.int IntKind.i64 (0 : Int), Value.int IntKind.i64 (0 : Int), Value.int IntKind.i64 (0 : Int), Value.int IntKind.i64 (0 : Int)] (24 : Nat)) w48 fun b1555 w1556 =>
    (
     Row w1556 { block := b15, off := (0 : Nat) } (0 : Nat) [Value.int IntKind.i64 n63, Value.int IntKind.i64 n64, Value.int IntKind.i64 n65, Value.slice p66 k67 k68, Value.int IntKind.i64 n69, Value.int IntKind.i64 n70, Value.int IntKind.i64 n71, Value.int IntKind.i64 n72, Value.int IntKind.i64 n73, Value.int IntKind.i64 n74, Value.int IntKind.i64 n75, Value.int IntKind.i64 n76]) ∧
    (
     Row w1556 { block := b37, off := (0 : Nat) } (0 : Nat) [Value.int IntKind.i64 n49, Value.int IntKind.i64 n50, Value.int IntKind.i64 n51, Value.slice p52 k53 k54, Value.int IntKind.i64 n55, Value.int IntKind.i64 n56, Value.int IntKind.i64 n57, Value.int IntKind.i64 n58, Value.int IntKind.i64 n59, Value.int IntKind.i64 n60, Value.int IntKind.i64 n61, Value.int IntKind.i64 n62]) ∧
    (
     Ca Try.prog (13 : Nat) #[Value.agg #[Value.int IntKind.i64 n49, Value.int IntKind.i64 n50, Value.int IntKind.i64 n51, Value.slice p52 k53 k54, Value.int IntKind.i64 n55, Value.int IntKind.i64 n56, Value.int IntKind.i64 n57, Value.int IntKind.i64 n58, Value.int IntKind.i64 n59, Value.int IntKind.i64 n60, Value.int IntKind.i64 n61, Value.int IntKind.i64 n62]] w1556 fun e1557 w1558 =>
     ∃ n1559 : Int,
     ∃ n1560 : Int,
     ∃ n1561 : Int,
     ∃ p1562 : Option Addr,
     ∃ k1563 : Nat,
     ∃ k1564 : Nat,
     ∃ n1565 : Int,
     ∃ n1566 : Int,
     ∃ n1567 : Int,
     ∃ n1568 : Int,
     ∃ n1569 : Int,
     ∃ n1570 : Int,
     ∃ n1571 : Int,
     ∃ n1572 : Int,
     (
      e1557 = Ending.returned (Value.agg #[Value.int IntKind.i64 n1559, Value.int IntKind.i64 n1560, Value.int IntKind.i64 n1561, Value.slice p1562 k1563 k1564, Value.int IntKind.i64 n1565, Value.int IntKind.i64 n1566, Value.int IntKind.i64 n1567, Value.int IntKind.i64 n1568, Value.int IntKind.i64 n1569, Value.int IntKind.i64 n1570, Value.int IntKind.i64 n1571, Value.int IntKind.i64 n1572])) ∧
     (
      Row w1558 { block := b15, off := (0 : Nat) } (0 : Nat) [Value.int IntKind.i64 n63, Value.int IntKind.i64 n64, Value.int IntKind.i64 n65, Value.slice p66 k67 k68, Value.int IntKind.i64 n69, Value.int IntKind.i64 n70, Value.int IntKind.i64 n71, Value.int IntKind.i64 n72, Value.int IntKind.i64 n73, Value.int IntKind.i64 n74, Value.int IntKind.i64 n75, Value.int IntKind.i64 n76]) ∧
     (
      Ca Try.prog (14 : Nat) #[Value.agg #[Value.int IntKind.i64 n63, Value.int IntKind.i64 n64, Value.int IntKind.i64 n65, Value.slice p66 k67 k68, Value.int IntKind.i64 n69, Value.int IntKind.i64 n70, Value.int IntKind.i64 n71, Value.int IntKind.i64 n72, Value.int IntKind.i64 n73, Value.int IntKind.i64 n74, Value.int IntKind.i64 n75, Value.int IntKind.i64 n76]] w1558 fun e1573 w1574 =>
      ∃ n1575 : Int,
      ∃ n1576 : Int,
      ∃ n1577 : Int,
      ∃ p1578 : Option Addr,
      ∃ k1579 : Nat,
      ∃ k1580 : Nat,
      ∃ n1581 : Int,
      ∃ n1582 : Int,
      ∃ n1583 : Int,
      ∃ n1584 : Int,
      ∃ n1585 : Int,
      ∃ n1586 : Int,
      ∃ n1587 : Int,
      ∃ n1588 : Int,
      (
       e1573 = Ending.returned (Value.agg #[Value.int IntKind.i64 n1575, Value.int IntKind.i64 n1576, Value.int IntKind.i64 n1577, Value.slice p1578 k1579 k1580, Value.int IntKind.i64 n1581, Value.int IntKind.i64 n1582, Value.int IntKind.i64 n1583, Value.int IntKind.i64 n1584, Value.int IntKind.i64 n1585, Value.int IntKind.i64 n1586, Value.int IntKind.i64 n1587, Value.int IntKind.i64 n1588])) ∧
      LetA (Obj.cells #[Value.int IntKind.i64 (0 : Int), Value.int IntKind.i64 (0 : Int), Value.int IntKind.i64 (0 : Int), Value.slice none (0 : Nat) (0 : Nat), Value.int IntKind.i64 (0 : Int), Value.int IntKind.i64 (0 : Int), Value.int IntKind.i64 (0 : Int), Value.int IntKind.i64 (0 : Int), Value.int IntKind.i64 (0 : Int), Value.int IntKind.i64 (0 : Int), Value.int IntKind.i64 (0 : Int), Value.int IntKind.i64 (0 : Int)] (24 : Nat)) w1574 fun b1589 w1590 =>
      (
       WrRow w1590 { block := b1555, off := (0 : Nat) } (0 : Nat) [Value.int IntKind.i64 n1559, Value.int IntKind.i64 n1560, Value.int IntKind.i64 n1561, Value.slice p1562 k1563 k1564, Value.int IntKind.i64 n1565, Value.int IntKind.i64 n1566, Value.int IntKind.i64 n1567, Value.int IntKind.i64 n1568, Value.int IntKind.i64 n1569, Value.int IntKind.i64 n1570, Value.int IntKind.i64 n1571, Value.int IntKind.i64 n1572]) ∧
      LetW (setRow w1590 { block := b1555, off := (0 : Nat) } (0 : Nat) [Value.int IntKind.i64 n1559, Value.int IntKind.i64 n1560, Value.int IntKind.i64 n1561, Value.slice p1562 k1563 k1564, Value.int IntKind.i64 n1565, Value.int IntKind.i64 n1566, Value.int IntKind.i64 n1567, Value.int IntKind.i64 n1568, Value.int IntKind.i64 n1569, Value.int IntKind.i64 n1570, Value.int IntKind.i64 n1571, Value.int IntKind.i64 n1572]) fun w1591 =>
      (
       WrRow w1591 { block := b1589, off := (0 : Nat) } (0 : Nat) [Value.int IntKind.i64 n1575, Value.int IntKind.i64 n1576, Value.int IntKind.i64 n1577, Value.slice p1578 k1579 k1580, Value.int IntKind.i64 n1581, Value.int IntKind.i64 n1582, Value.int IntKind.i64 n1583, Value.int IntKind.i64 n1584, Value.int IntKind.i64 n1585, Value.int IntKind.i64 n1586, Value.int IntKind.i64 n1587, Value.int IntKind.i64 n1588]) ∧
      LetW (setRow w1591 { block := b1589, off := (0 : Nat) } (0 : Nat) [Value.int IntKind.i64 n1575, Value.int IntKind.i64 n1576, Value.int IntKind.i64 n1577, Value.slice p1578 k1579 k1580, Value.int IntKind.i64 n1581, Value.int IntKind.i64 n1582, Value.int IntKind.i64 n1583, Value.int IntKind.i64 n1584, Value.int IntKind.i64 n1585, Value.int IntKind.i64 n1586, Value.int IntKind.i64 n1587, Value.int IntKind.i64 n1588]) fun w1592 =>
      ∃ n1593 : Int,
      ∃ n1594 : Int,
      ∃ n1595 : Int,
      ∃ p1596 : Option Addr,
      ∃ k1597 : Nat,
      ∃ k1598 : Nat,
      ∃ n1599 : Int,
      ∃ n1600 : Int,
      ∃ n1601 : Int,
      ∃ n1602 : Int,
      ∃ n1603 : Int,
      ∃ n1604 : Int,
      ∃ n1605 : Int,
      ∃ n1606 : Int,
      (
       Row w1592 { block := b1555, off := (0 : Nat) } (0 : Nat) [Value.int IntKind.i64 n1593, Value.int IntKind.i64 n1594, Value.int IntKind.i64 n1595, Value.slice p1596 k1597 k1598, Value.int IntKind.i64 n1599, Value.int IntKind.i64 n1600, Value.int IntKind.i64 n1601, Value.int IntKind.i64 n1602, Value.int IntKind.i64 n1603, Value.int IntKind.i64 n1604, Value.int IntKind.i64 n1605, Value.int IntKind.i64 n1606]) ∧
      ∃ n1607 : Int,
      ∃ n1608 : Int,
      ∃ n1609 : Int,
      ∃ p1610 : Option Addr,
      ∃ k1611 : Nat,
      ∃ k1612 : Nat,
      ∃ n1613 : Int,
      ∃ n1614 : Int,
      ∃ n1615 : Int,
      ∃ n1616 : Int,
      ∃ n1617 : Int,
      ∃ n1618 : Int,
      ∃ n1619 : Int,
      ∃ n1620 : Int,
      (
       Row w1592 { block := b1589, off := (0 : Nat) } (0 : Nat) [Value.int IntKind.i64 n1607, Value.int IntKind.i64 n1608, Value.int IntKind.i64 n1609, Value.slice p1610 k1611 k1612, Value.int IntKind.i64 n1613, Value.int IntKind.i64 n1614, Value.int IntKind.i64 n1615, Value.int IntKind.i64 n1616, Value.int IntKind.i64 n1617, Value.int IntKind.i64 n1618, Value.int IntKind.i64 n1619, Value.int IntKind.i64 n1620]) ∧
      Ca Try.prog (15 : Nat) #[Value.agg #[Value.int IntKind.i64 n1593, Value.int IntKind.i64 n1594, Value.int IntKind.i64 n1595, Value.slice p1596 k1597 k1598, Value.int IntKind.i64 n1599, Value.int IntKind.i64 n1600, Value.int IntKind.i64 n1601, Value.int IntKind.i64 n1602, Value.int IntKind.i64 n1603, Value.int IntKind.i64 n1604, Value.int IntKind.i64 n1605, Value.int IntKind.i64 n1606], Value.agg #[Value.int IntKind.i64 n1607, Value.int IntKind.i64 n1608, Value.int IntKind.i64 n1609, Value.slice p1610 k1611 k1612, Value.int IntKind.i64 n1613, Value.int IntKind.i64 n1614, Value.int IntKind.i64 n1615, Value.int IntKind.i64 n1616, Value.int IntKind.i64 n1617, Value.int IntKind.i64 n1618, Value.int IntKind.i64 n1619, Value.int IntKind.i64 n1620]] w1592 fun e1621 w1622 =>
      ∃ b1623 : Bool,
      (
       e1621 = Ending.returned (Value.bool b1623)) ∧
      Br (!b1623)
       (
        R (Ending.returned (Value.bool false)) w1622)
       (
        ∃ n1624 : Int,
        ∃ n1625 : Int,
        ∃ n1626 : Int,
        ∃ p1627 : Option Addr,
        ∃ k1628 : Nat,
        ∃ k1629 : Nat,
        ∃ n1630 : Int,
        ∃ n1631 : Int,
        ∃ n1632 : Int,
        ∃ n1633 : Int,
        ∃ n1634 : Int,
        ∃ n1635 : Int,
        ∃ n1636 : Int,
        ∃ n1637 : Int,
        (
         Row w1622 { block := b37, off := (0 : Nat) } (0 : Nat) [Value.int IntKind.i64 n1624, Value.int IntKind.i64 n1625, Value.int IntKind.i64 n1626, Value.slice p1627 k1628 k1629, Value.int IntKind.i64 n1630, Value.int IntKind.i64 n1631, Value.int IntKind.i64 n1632, Value.int IntKind.i64 n1633, Value.int IntKind.i64 n1634, Value.int IntKind.i64 n1635, Value.int IntKind.i64 n1636, Value.int IntKind.i64 n1637]) ∧
        ∃ n1638 : Int,
        ∃ n1639 : Int,
        ∃ n1640 : Int,
        ∃ p1641 : Option Addr,
        ∃ k1642 : Nat,
        ∃ k1643 : Nat,
        ∃ n1644 : Int,
        ∃ n1645 : Int,
        ∃ n1646 : Int,
        ∃ n1647 : Int,
        ∃ n1648 : Int,
        ∃ n1649 : Int,
        ∃ n1650 : Int,
        ∃ n1651 : Int,
        (
         Row w1622 { block := b15, off := (0 : Nat) } (0 : Nat) [Value.int IntKind.i64 n1638, Value.int IntKind.i64 n1639, Value.int IntKind.i64 n1640, Value.slice p1641 k1642 k1643, Value.int IntKind.i64 n1644, Value.int IntKind.i64 n1645, Value.int IntKind.i64 n1646, Value.int IntKind.i64 n1647, Value.int IntKind.i64 n1648, Value.int IntKind.i64 n1649, Value.int IntKind.i64 n1650, Value.int IntKind.i64 n1651]) ∧
        Ca Try.prog (15 : Nat) #[Value.agg #[Value.int IntKind.i64 n1624, Value.int IntKind.i64 n1625, Value.int IntKind.i64 n1626, Value.slice p1627 k1628 k1629, Value.int IntKind.i64 n1630, Value.int IntKind.i64 n1631, Value.int IntKind.i64 n1632, Value.int IntKind.i64 n1633, Value.int IntKind.i64 n1634, Value.int IntKind.i64 n1635, Value.int IntKind.i64 n1636, Value.int IntKind.i64 n1637], Value.agg #[Value.int IntKind.i64 n1638, Value.int IntKind.i64 n1639, Value.int IntKind.i64 n1640, Value.slice p1641 k1642 k1643, Value.int IntKind.i64 n1644, Value.int IntKind.i64 n1645, Value.int IntKind.i64 n1646, Value.int IntKind.i64 n1647, Value.int IntKind.i64 n1648, Value.int IntKind.i64 n1649, Value.int IntKind.i64 n1650, Value.int IntKind.i64 n1651]] w1622 fun e1652 w1653 =>
        ∃ b1654 : Bool,
        (
         e1652 = Ending.returned (Value.bool b1654)) ∧
        Br (!b1654)
         (
          R (Ending.returned (Value.bool false)) w1653)
         (
          ∃ n1655 : Int,
          ∃ n1656 : Int,
          ∃ n1657 : Int,
          ∃ p1658 : Option Addr,
          ∃ k1659 : Nat,
          ∃ k1660 : Nat,
          ∃ n1661 : Int,
          ∃ n1662 : Int,
          ∃ n1663 : Int,
          ∃ n1664 : Int,
          ∃ n1665 : Int,
          ∃ n1666 : Int,
          ∃ n1667 : Int,
          ∃ n1668 : Int,
          (
           Row w1653 { block := b37, off := (0 : Nat) } (0 : Nat) [Value.int IntKind.i64 n1655, Value.int IntKind.i64 n1656, Value.int IntKind.i64 n1657, Value.slice p1658 k1659 k1660, Value.int IntKind.i64 n1661, Value.int IntKind.i64 n1662, Value.int IntKind.i64 n1663, Value.int IntKind.i64 n1664, Value.int IntKind.i64 n1665, Value.int IntKind.i64 n1666, Value.int IntKind.i64 n1667, Value.int IntKind.i64 n1668]) ∧
          ∃ n1669 : Int,
          ∃ n1670 : Int,
          ∃ n1671 : Int,
          ∃ p1672 : Option Addr,
          ∃ k1673 : Nat,
          ∃ k1674 : Nat,
          ∃ n1675 : Int,
          ∃ n1676 : Int,
          ∃ n1677 : Int,
          ∃ n1678 : Int,
          ∃ n1679 : Int,
          ∃ n1680 : Int,
          ∃ n1681 : Int,
          ∃ n1682 : Int,
          (
           Row w1653 { block := b15, off := (0 : Nat) } (0 : Nat) [Value.int IntKind.i64 n1669, Value.int IntKind.i64 n1670, Value.int IntKind.i64 n1671, Value.slice p1672 k1673 k1674, Value.int IntKind.i64 n1675, Value.int IntKind.i64 n1676, Value.int IntKind.i64 n1677, Value.int IntKind.i64 n1678, Value.int IntKind.i64 n1679, Value.int IntKind.i64 n1680, Value.int IntKind.i64 n1681, Value.int IntKind.i64 n1682]) ∧
          Ca Try.prog (16 : Nat) #[Value.agg #[Value.int IntKind.i64 n1655, Value.int IntKind.i64 n1656, Value.int IntKind.i64 n1657, Value.slice p1658 k1659 k1660, Value.int IntKind.i64 n1661, Value.int IntKind.i64 n1662, Value.int IntKind.i64 n1663, Value.int IntKind.i64 n1664, Value.int IntKind.i64 n1665, Value.int IntKind.i64 n1666, Value.int IntKind.i64 n1667, Value.int IntKind.i64 n1668]] w1653 fun e1683 w1684 =>
          ∃ n1685 : Int,
          (
           e1683 = Ending.returned (Value.int IntKind.i64 n1685)) ∧
          (
           Row w1684 { block := b15, off := (0 : Nat) } (0 : Nat) [Value.int IntKind.i64 n1669, Value.int IntKind.i64 n1670, Value.int IntKind.i64 n1671, Value.slice p1672 k1673 k1674, Value.int IntKind.i64 n1675, Value.int IntKind.i64 n1676, Value.int IntKind.i64 n1677, Value.int IntKind.i64 n1678, Value.int IntKind.i64 n1679, Value.int IntKind.i64 n1680, Value.int IntKind.i64 n1681, Value.int IntKind.i64 n1682]) ∧
          Ca Try.prog (17 : Nat) #[Value.agg #[Value.int IntKind.i64 n1669, Value.int IntKind.i64 n1670, Value.int IntKind.i64 n1671, Value.slice p1672 k1673 k1674, Value.int IntKind.i64 n1675, Value.int IntKind.i64 n1676, Value.int IntKind.i64 n1677, Value.int IntKind.i64 n1678, Value.int IntKind.i64 n1679, Value.int IntKind.i64 n1680, Value.int IntKind.i64 n1681, Value.int IntKind.i64 n1682]] w1684 fun e1686 w1687 =>
          ∃ n1688 : Int,
          (
           e1686 = Ending.returned (Value.int IntKind.i64 n1688)) ∧
          Br (n1685 != n1688)
           (
            R (Ending.returned (Value.bool false)) w1687)
           (
            ∃ n1689 : Int,
            ∃ n1690 : Int,
            ∃ n1691 : Int,
            ∃ p1692 : Option Addr,
            ∃ k1693 : Nat,
            ∃ k1694 : Nat,
            ∃ n1695 : Int,
            ∃ n1696 : Int,
            ∃ n1697 : Int,
            ∃ n1698 : Int,
            ∃ n1699 : Int,
            ∃ n1700 : Int,
            ∃ n1701 : Int,
            ∃ n1702 : Int,
            (
             Row w1687 { block := b37, off := (0 : Nat) } (0 : Nat) [Value.int IntKind.i64 n1689, Value.int IntKind.i64 n1690, Value.int IntKind.i64 n1691, Value.slice p1692 k1693 k1694, Value.int IntKind.i64 n1695, Value.int IntKind.i64 n1696, Value.int IntKind.i64 n1697, Value.int IntKind.i64 n1698, Value.int IntKind.i64 n1699, Value.int IntKind.i64 n1700, Value.int IntKind.i64 n1701, Value.int IntKind.i64 n1702]) ∧
            Ca Try.prog (18 : Nat) #[Value.agg #[Value.int IntKind.i64 n1689, Value.int IntKind.i64 n1690, Value.int IntKind.i64 n1691, Value.slice p1692 k1693 k1694, Value.int IntKind.i64 n1695, Value.int IntKind.i64 n1696, Value.int IntKind.i64 n1697, Value.int IntKind.i64 n1698, Value.int IntKind.i64 n1699, Value.int IntKind.i64 n1700, Value.int IntKind.i64 n1701, Value.int IntKind.i64 n1702]] w1687 fun e1703 w1704 =>
            ∃ n1705 : Int,
            ∃ p1706 : Option Addr,
            ∃ k1707 : Nat,
            ∃ k1708 : Nat,
            ∃ n1709 : Int,
            ∃ n1710 : Int,
            (
             e1703 = Ending.returned (Value.tuple #[Value.agg #[Value.int IntKind.i64 n1705, Value.slice p1706 k1707 k1708, Value.int IntKind.i64 n1709], Value.int IntKind.i64 n1710])) ∧
            LetA (Obj.cells #[Value.int IntKind.i64 (0 : Int), Value.slice none (0 : Nat) (0 : Nat), Value.int IntKind.i64 (0 : Int)] (32 : Nat)) w1704 fun b1711 w1712 =>
            (
             WrRow w1712 { block := b1711, off := (0 : Nat) } (0 : Nat) [Value.int IntKind.i64 n1705, Value.slice p1706 k1707 k1708, Value.int IntKind.i64 n1709]) ∧
            LetW (setRow w1712 { block := b1711, off := (0 : Nat) } (0 : Nat) [Value.int IntKind.i64 n1705, Value.slice p1706 k1707 k1708, Value.int IntKind.i64 n1709]) fun w1713 =>
            ∃ n1714 : Int,
            ∃ n1715 : Int,
            ∃ n1716 : Int,
            ∃ p1717 : Option Addr,
            ∃ k1718 : Nat,
            ∃ k1719 : Nat,
            ∃ n1720 : Int,
            ∃ n1721 : Int,
            ∃ n1722 : Int,
            ∃ n1723 : Int,
            ∃ n1724 : Int,
            ∃ n1725 : Int,
            ∃ n1726 : Int,
            ∃ n1727 : Int,
            (
             Row w1713 { block := b15, off := (0 : Nat) } (0 : Nat) [Value.int IntKind.i64 n1714, Value.int IntKind.i64 n1715, Value.int IntKind.i64 n1716, Value.slice p1717 k1718 k1719, Value.int IntKind.i64 n1720, Value.int IntKind.i64 n1721, Value.int IntKind.i64 n1722, Value.int IntKind.i64 n1723, Value.int IntKind.i64 n1724, Value.int IntKind.i64 n1725, Value.int IntKind.i64 n1726, Value.int IntKind.i64 n1727]) ∧
            Ca Try.prog (19 : Nat) #[Value.agg #[Value.int IntKind.i64 n1714, Value.int IntKind.i64 n1715, Value.int IntKind.i64 n1716, Value.slice p1717 k1718 k1719, Value.int IntKind.i64 n1720, Value.int IntKind.i64 n1721, Value.int IntKind.i64 n1722, Value.int IntKind.i64 n1723, Value.int IntKind.i64 n1724, Value.int IntKind.i64 n1725, Value.int IntKind.i64 n1726, Value.int IntKind.i64 n1727]] w1713 fun e1728 w1729 =>
            ∃ n1730 : Int,
            ∃ p1731 : Option Addr,
            ∃ k1732 : Nat,
            ∃ k1733 : Nat,
            ∃ n1734 : Int,
            ∃ n1735 : Int,
            (
             e1728 = Ending.returned (Value.tuple #[Value.agg #[Value.int IntKind.i64 n1730, Value.slice p1731 k1732 k1733, Value.int IntKind.i64 n1734], Value.int IntKind.i64 n1735])) ∧
            LetA (Obj.cells #[Value.int IntKind.i64 (0 : Int), Value.slice none (0 : Nat) (0 : Nat), Value.int IntKind.i64 (0 : Int)] (32 : Nat)) w1729 fun b1736 w1737 =>
            (
             WrRow w1737 { block := b1736, off := (0 : Nat) } (0 : Nat) [Value.int IntKind.i64 n1730, Value.slice p1731 k1732 k1733, Value.int IntKind.i64 n1734]) ∧
            LetW (setRow w1737 { block := b1736, off := (0 : Nat) } (0 : Nat) [Value.int IntKind.i64 n1730, Value.slice p1731 k1732 k1733, Value.int IntKind.i64 n1734]) fun w1738 =>
            ∃ n1739 : Int,
            ∃ n1740 : Int,
            ∃ n1741 : Int,
            ∃ p1742 : Option Addr,
            ∃ k1743 : Nat,
            ∃ k1744 : Nat,
            ∃ n1745 : Int,
            ∃ n1746 : Int,
            ∃ n1747 : Int,
            ∃ n1748 : Int,
            ∃ n1749 : Int,
            ∃ n1750 : Int,
            ∃ n1751 : Int,
            ∃ n1752 : Int,
            (
             Row w1738 { block := b1555, off := (0 : Nat) } (0 : Nat) [Value.int IntKind.i64 n1739, Value.int IntKind.i64 n1740, Value.int IntKind.i64 n1741, Value.slice p1742 k1743 k1744, Value.int IntKind.i64 n1745, Value.int IntKind.i64 n1746, Value.int IntKind.i64 n1747, Value.int IntKind.i64 n1748, Value.int IntKind.i64 n1749, Value.int IntKind.i64 n1750, Value.int IntKind.i64 n1751, Value.int IntKind.i64 n1752]) ∧
            Ca Try.prog (18 : Nat) #[Value.agg #[Value.int IntKind.i64 n1739, Value.int IntKind.i64 n1740, Value.int IntKind.i64 n1741, Value.slice p1742 k1743 k1744, Value.int IntKind.i64 n1745, Value.int IntKind.i64 n1746, Value.int IntKind.i64 n1747, Value.int IntKind.i64 n1748, Value.int IntKind.i64 n1749, Value.int IntKind.i64 n1750, Value.int IntKind.i64 n1751, Value.int IntKind.i64 n1752]] w1738 fun e1753 w1754 =>
            ∃ n1755 : Int,
            ∃ p1756 : Option Addr,
            ∃ k1757 : Nat,
            ∃ k1758 : Nat,
            ∃ n1759 : Int,
            ∃ n1760 : Int,
            (
             e1753 = Ending.returned (Value.tuple #[Value.agg #[Value.int IntKind.i64 n1755, Value.slice p1756 k1757 k1758, Value.int IntKind.i64 n1759], Value.int IntKind.i64 n1760])) ∧
            LetA (Obj.cells #[Value.int IntKind.i64 (0 : Int), Value.slice none (0 : Nat) (0 : Nat), Value.int IntKind.i64 (0 : Int)] (32 : Nat)) w1754 fun b1761 w1762 =>
            (
             WrRow w1762 { block := b1761, off := (0 : Nat) } (0 : Nat) [Value.int IntKind.i64 n1755, Value.slice p1756 k1757 k1758, Value.int IntKind.i64 n1759]) ∧
            LetW (setRow w1762 { block := b1761, off := (0 : Nat) } (0 : Nat) [Value.int IntKind.i64 n1755, Value.slice p1756 k1757 k1758, Value.int IntKind.i64 n1759]) fun w1763 =>
            ∃ n1764 : Int,
            ∃ n1765 : Int,
            ∃ n1766 : Int,
            ∃ p1767 : Option Addr,
            ∃ k1768 : Nat,
            ∃ k1769 : Nat,
            ∃ n1770 : Int,
            ∃ n1771 : Int,
            ∃ n1772 : Int,
            ∃ n1773 : Int,
            ∃ n1774 : Int,
            ∃ n1775 : Int,
            ∃ n1776 : Int,
            ∃ n1777 : Int,
            (
             Row w1763 { block := b1589, off := (0 : Nat) } (0 : Nat) [Value.int IntKind.i64 n1764, Value.int IntKind.i64 n1765, Value.int IntKind.i64 n1766, Value.slice p1767 k1768 k1769, Value.int IntKind.i64 n1770, Value.int IntKind.i64 n1771, Value.int IntKind.i64 n1772, Value.int IntKind.i64 n1773, Value.int IntKind.i64 n1774, Value.int IntKind.i64 n1775, Value.int IntKind.i64 n1776, Value.int IntKind.i64 n1777]) ∧
            Ca Try.prog (19 : Nat) #[Value.agg #[Value.int IntKind.i64 n1764, Value.int IntKind.i64 n1765, Value.int IntKind.i64 n1766, Value.slice p1767 k1768 k1769, Value.int IntKind.i64 n1770, Value.int IntKind.i64 n1771, Value.int IntKind.i64 n1772, Value.int IntKind.i64 n1773, Value.int IntKind.i64 n1774, Value.int IntKind.i64 n1775, Value.int IntKind.i64 n1776, Value.int IntKind.i64 n1777]] w1763 fun e1778 w1779 =>
            ∃ n1780 : Int,
            ∃ p1781 : Option Addr,
            ∃ k1782 : Nat,
            ∃ k1783 : Nat,
            ∃ n1784 : Int,
            ∃ n1785 : Int,
            (
             e1778 = Ending.returned (Value.tuple #[Value.agg #[Value.int IntKind.i64 n1780, Value.slice p1781 k1782 k1783, Value.int IntKind.i64 n1784], Value.int IntKind.i64 n1785])) ∧
            LetA (Obj.cells #[Value.int IntKind.i64 (0 : Int), Value.slice none (0 : Nat) (0 : Nat), Value.int IntKind.i64 (0 : Int)] (32 : Nat)) w1779 fun b1786 w1787 =>
            (
             WrRow w1787 { block := b1786, off := (0 : Nat) } (0 : Nat) [Value.int IntKind.i64 n1780, Value.slice p1781 k1782 k1783, Value.int IntKind.i64 n1784]) ∧
            LetW (setRow w1787 { block := b1786, off := (0 : Nat) } (0 : Nat) [Value.int IntKind.i64 n1780, Value.slice p1781 k1782 k1783, Value.int IntKind.i64 n1784]) fun w1788 =>
            ∃ n1789 : Int,
            ∃ p1790 : Option Addr,
            ∃ k1791 : Nat,
            ∃ k1792 : Nat,
            ∃ n1793 : Int,
            (
             Row w1788 { block := b1711, off := (0 : Nat) } (0 : Nat) [Value.int IntKind.i64 n1789, Value.slice p1790 k1791 k1792, Value.int IntKind.i64 n1793]) ∧
            ∃ n1794 : Int,
            ∃ p1795 : Option Addr,
            ∃ k1796 : Nat,
            ∃ k1797 : Nat,
            ∃ n1798 : Int,
            (
             Row w1788 { block := b1736, off := (0 : Nat) } (0 : Nat) [Value.int IntKind.i64 n1794, Value.slice p1795 k1796 k1797, Value.int IntKind.i64 n1798]) ∧
            Ca Try.prog (20 : Nat) #[Value.agg #[Value.int IntKind.i64 n1789, Value.slice p1790 k1791 k1792, Value.int IntKind.i64 n1793], Value.agg #[Value.int IntKind.i64 n1794, Value.slice p1795 k1796 k1797, Value.int IntKind.i64 n1798]] w1788 fun e1799 w1800 =>
            ∃ b1801 : Bool,
            (
             e1799 = Ending.returned (Value.bool b1801)) ∧
            Br (b1801)
             (
              Br (n1710 == n1735)
               (
                ∃ n1802 : Int,
                ∃ p1803 : Option Addr,
                ∃ k1804 : Nat,
                ∃ k1805 : Nat,
                ∃ n1806 : Int,
                (
                 Row w1800 { block := b1761, off := (0 : Nat) } (0 : Nat) [Value.int IntKind.i64 n1802, Value.slice p1803 k1804 k1805, Value.int IntKind.i64 n1806]) ∧
                ∃ n1807 : Int,
                ∃ p1808 : Option Addr,
                ∃ k1809 : Nat,
                ∃ k1810 : Nat,
                ∃ n1811 : Int,
                (
                 Row w1800 { block := b1786, off := (0 : Nat) } (0 : Nat) [Value.int IntKind.i64 n1807, Value.slice p1808 k1809 k1810, Value.int IntKind.i64 n1811]) ∧
                Ca Try.prog (20 : Nat) #[Value.agg #[Value.int IntKind.i64 n1802, Value.slice p1803 k1804 k1805, Value.int IntKind.i64 n1806], Value.agg #[Value.int IntKind.i64 n1807, Value.slice p1808 k1809 k1810, Value.int IntKind.i64 n1811]] w1800 fun e1812 w1813 =>
                ∃ b1814 : Bool,
                (
                 e1812 = Ending.returned (Value.bool b1814)) ∧
                Br (b1814)
                 (
                  Br (n1760 == n1785)
                   (
                    Ca Try.prog (12 : Nat) #[] w1813 fun e1815 w1816 =>
                    ∃ b1817 : Bool,
                    (
                     e1815 = Ending.returned (Value.bool b1817)) ∧
                    R (Ending.returned (Value.bool b1817)) w1816)
                   (
                    R (Ending.returned (Value.bool false)) w1813))
                 (
                  R (Ending.returned (Value.bool false)) w1813))
               (
                R (Ending.returned (Value.bool false)) w1800))
             (
              R (Ending.returned (Value.bool false)) w1800))))) ∧
     LetA (Obj.cells #[Value.int IntKind.i64 (0 : Int), Value.int IntKind.i64 (0 : Int), Value.int IntKind.i64 (0 : Int), Value.slice none (0 : Nat) (0 : Nat), Value.int IntKind.i64 (0 : Int), Value.int IntKind.i64 (0 : Int), Value.int IntKind.i64 (0 : Int), Value.int IntKind.i64 (0 : Int), Value.int IntKind.i64 (0 : Int), Value.int IntKind.i64 (0 : Int), Value.int IntKind.i64 (0 : Int), Value.int IntKind.i64 (0 : Int)] (24 : Nat)) w1558 fun b1818 w1819 =>
     (
      Row w1819 { block := b15, off := (0 : Nat) } (0 : Nat) [Value.int IntKind.i64 n63, Value.int IntKind.i64 n64, Value.int IntKind.i64 n65, Value.slice p66 k67 k68, Value.int IntKind.i64 n69, Value.int IntKind.i64 n70, Value.int IntKind.i64 n71, Value.int IntKind.i64 n72, Value.int IntKind.i64 n73, Value.int IntKind.i64 n74, Value.int IntKind.i64 n75, Value.int IntKind.i64 n76]) ∧
     Ca Try.prog (14 : Nat) #[Value.agg #[Value.int IntKind.i64 n63, Value.int IntKind.i64 n64, Value.int IntKind.i64 n65, Value.slice p66 k67 k68, Value.int IntKind.i64 n69, Value.int IntKind.i64 n70, Value.int IntKind.i64 n71, Value.int IntKind.i64 n72, Value.int IntKind.i64 n73, Value.int IntKind.i64 n74, Value.int IntKind.i64 n75, Value.int IntKind.i64 n76]] w1819 fun e1820 w1821 =>
     ∃ n1822 : Int,
     ∃ n1823 : Int,
     ∃ n1824 : Int,
     ∃ p1825 : Option Addr,
     ∃ k1826 : Nat,
     ∃ k1827 : Nat,
     ∃ n1828 : Int,
     ∃ n1829 : Int,
     ∃ n1830 : Int,
     ∃ n1831 : Int,
     ∃ n1832 : Int,
     ∃ n1833 : Int,
     ∃ n1834 : Int,
     ∃ n1835 : Int,
     (
      e1820 = Ending.returned (Value.agg #[Value.int IntKind.i64 n1822, Value.int IntKind.i64 n1823, Value.int IntKind.i64 n1824, Value.slice p1825 k1826 k1827, Value.int IntKind.i64 n1828, Value.int IntKind.i64 n1829, Value.int IntKind.i64 n1830, Value.int IntKind.i64 n1831, Value.int IntKind.i64 n1832, Value.int IntKind.i64 n1833, Value.int IntKind.i64 n1834, Value.int IntKind.i64 n1835])) ∧
     (
      WrRow w1821 { block := b1555, off := (0 : Nat) } (0 : Nat) [Value.int IntKind.i64 n1559, Value.int IntKind.i64 n1560, Value.int IntKind.i64 n1561, Value.slice p1562 k1563 k1564, Value.int IntKind.i64 n1565, Value.int IntKind.i64 n1566, Value.int IntKind.i64 n1567, Value.int IntKind.i64 n1568, Value.int IntKind.i64 n1569, Value.int IntKind.i64 n1570, Value.int IntKind.i64 n1571, Value.int IntKind.i64 n1572]) ∧
     LetW (setRow w1821 { block := b1555, off := (0 : Nat) } (0 : Nat) [Value.int IntKind.i64 n1559, Value.int IntKind.i64 n1560, Value.int IntKind.i64 n1561, Value.slice p1562 k1563 k1564, Value.int IntKind.i64 n1565, Value.int IntKind.i64 n1566, Value.int IntKind.i64 n1567, Value.int IntKind.i64 n1568, Value.int IntKind.i64 n1569, Value.int IntKind.i64 n1570, Value.int IntKind.i64 n1571, Value.int IntKind.i64 n1572]) fun w1836 =>
     (
      WrRow w1836 { block := b1818, off := (0 : Nat) } (0 : Nat) [Value.int IntKind.i64 n1822, Value.int IntKind.i64 n1823, Value.int IntKind.i64 n1824, Value.slice p1825 k1826 k1827, Value.int IntKind.i64 n1828, Value.int IntKind.i64 n1829, Value.int IntKind.i64 n1830, Value.int IntKind.i64 n1831, Value.int IntKind.i64 n1832, Value.int IntKind.i64 n1833, Value.int IntKind.i64 n1834, Value.int IntKind.i64 n1835]) ∧
     LetW (setRow w1836 { block := b1818, off := (0 : Nat) } (0 : Nat) [Value.int IntKind.i64 n1822, Value.int IntKind.i64 n1823, Value.int IntKind.i64 n1824, Value.slice p1825 k1826 k1827, Value.int IntKind.i64 n1828, Value.int IntKind.i64 n1829, Value.int IntKind.i64 n1830, Value.int IntKind.i64 n1831, Value.int IntKind.i64 n1832, Value.int IntKind.i64 n1833, Value.int IntKind.i64 n1834, Value.int IntKind.i64 n1835]) fun w1837 =>
     ∃ n1838 : Int,
     ∃ n1839 : Int,
     ∃ n1840 : Int,
     ∃ p1841 : Option Addr,
     ∃ k1842 : Nat,
     ∃ k1843 : Nat,
     ∃ n1844 : Int,
     ∃ n1845 : Int,
     ∃ n1846 : Int,
     ∃ n1847 : Int,
     ∃ n1848 : Int,
     ∃ n1849 : Int,
     ∃ n1850 : Int,
     ∃ n1851 : Int,
     (
      Row w1837 { block := b1555, off := (0 : Nat) } (0 : Nat) [Value.int IntKind.i64 n1838, Value.int IntKind.i64 n1839, Value.int IntKind.i64 n1840, Value.slice p1841 k1842 k1843, Value.int IntKind.i64 n1844, Value.int IntKind.i64 n1845, Value.int IntKind.i64 n1846, Value.int IntKind.i64 n1847, Value.int IntKind.i64 n1848, Value.int IntKind.i64 n1849, Value.int IntKind.i64 n1850, Value.int IntKind.i64 n1851]) ∧
     ∃ n1852 : Int,
     ∃ n1853 : Int,
     ∃ n1854 : Int,
     ∃ p1855 : Option Addr,
     ∃ k1856 : Nat,
     ∃ k1857 : Nat,
     ∃ n1858 : Int,
     ∃ n1859 : Int,
     ∃ n1860 : Int,
     ∃ n1861 : Int,
     ∃ n1862 : Int,
     ∃ n1863 : Int,
     ∃ n1864 : Int,
     ∃ n1865 : Int,
     (
      Row w1837 { block := b1818, off := (0 : Nat) } (0 : Nat) [Value.int IntKind.i64 n1852, Value.int IntKind.i64 n1853, Value.int IntKind.i64 n1854, Value.slice p1855 k1856 k1857, Value.int IntKind.i64 n1858, Value.int IntKind.i64 n1859, Value.int IntKind.i64 n1860, Value.int IntKind.i64 n1861, Value.int IntKind.i64 n1862, Value.int IntKind.i64 n1863, Value.int IntKind.i64 n1864, Value.int IntKind.i64 n1865]) ∧
     Ca Try.prog (15 : Nat) #[Value.agg #[Value.int IntKind.i64 n1838, Value.int IntKind.i64 n1839, Value.int IntKind.i64 n1840, Value.slice p1841 k1842 k1843, Value.int IntKind.i64 n1844, Value.int IntKind.i64 n1845, Value.int IntKind.i64 n1846, Value.int IntKind.i64 n1847, Value.int IntKind.i64 n1848, Value.int IntKind.i64 n1849, Value.int IntKind.i64 n1850, Value.int IntKind.i64 n1851], Value.agg #[Value.int IntKind.i64 n1852, Value.int IntKind.i64 n1853, Value.int IntKind.i64 n1854, Value.slice p1855 k1856 k1857, Value.int IntKind.i64 n1858, Value.int IntKind.i64 n1859, Value.int IntKind.i64 n1860, Value.int IntKind.i64 n1861, Value.int IntKind.i64 n1862, Value.int IntKind.i64 n1863, Value.int IntKind.i64 n1864, Value.int IntKind.i64 n1865]] w1837 fun e1866 w1867 =>
     ∃ b1868 : Bool,
     (
      e1866 = Ending.returned (Value.bool b1868)) ∧
     Br (!b1868)
      (
       R (Ending.returned (Value.bool false)) w1867)
      (
       ∃ n1869 : Int,
       ∃ n1870 : Int,
       ∃ n1871 : Int,
       ∃ p1872 : Option Addr,
       ∃ k1873 : Nat,
       ∃ k1874 : Nat,
       ∃ n1875 : Int,
       ∃ n1876 : Int,
       ∃ n1877 : Int,
       ∃ n1878 : Int,
       ∃ n1879 : Int,
       ∃ n1880 : Int,
       ∃ n1881 : Int,
       ∃ n1882 : Int,
       (
        Row w1867 { block := b37, off := (0 : Nat) } (0 : Nat) [Value.int IntKind.i64 n1869, Value.int IntKind.i64 n1870, Value.int IntKind.i64 n1871, Value.slice p1872 k1873 k1874, Value.int IntKind.i64 n1875, Value.int IntKind.i64 n1876, Value.int IntKind.i64 n1877, Value.int IntKind.i64 n1878, Value.int IntKind.i64 n1879, Value.int IntKind.i64 n1880, Value.int IntKind.i64 n1881, Value.int IntKind.i64 n1882]) ∧
       ∃ n1883 : Int,
       ∃ n1884 : Int,
       ∃ n1885 : Int,
       ∃ p1886 : Option Addr,
       ∃ k1887 : Nat,
       ∃ k1888 : Nat,
       ∃ n1889 : Int,
       ∃ n1890 : Int,
       ∃ n1891 : Int,
       ∃ n1892 : Int,
       ∃ n1893 : Int,
       ∃ n1894 : Int,
       ∃ n1895 : Int,
       ∃ n1896 : Int,
       (
        Row w1867 { block := b15, off := (0 : Nat) } (0 : Nat) [Value.int IntKind.i64 n1883, Value.int IntKind.i64 n1884, Value.int IntKind.i64 n1885, Value.slice p1886 k1887 k1888, Value.int IntKind.i64 n1889, Value.int IntKind.i64 n1890, Value.int IntKind.i64 n1891, Value.int IntKind.i64 n1892, Value.int IntKind.i64 n1893, Value.int IntKind.i64 n1894, Value.int IntKind.i64 n1895, Value.int IntKind.i64 n1896]) ∧
       Ca Try.prog (15 : Nat) #[Value.agg #[Value.int IntKind.i64 n1869, Value.int IntKind.i64 n1870, Value.int IntKind.i64 n1871, Value.slice p1872 k1873 k1874, Value.int IntKind.i64 n1875, Value.int IntKind.i64 n1876, Value.int IntKind.i64 n1877, Value.int IntKind.i64 n1878, Value.int IntKind.i64 n1879, Value.int IntKind.i64 n1880, Value.int IntKind.i64 n1881, Value.int IntKind.i64 n1882], Value.agg #[Value.int IntKind.i64 n1883, Value.int IntKind.i64 n1884, Value.int IntKind.i64 n1885, Value.slice p1886 k1887 k1888, Value.int IntKind.i64 n1889, Value.int IntKind.i64 n1890, Value.int IntKind.i64 n1891, Value.int IntKind.i64 n1892, Value.int IntKind.i64 n1893, Value.int IntKind.i64 n1894, Value.int IntKind.i64 n1895, Value.int IntKind.i64 n1896]] w1867 fun e1897 w1898 =>
       ∃ b1899 : Bool,
       (
        e1897 = Ending.returned (Value.bool b1899)) ∧
       Br (!b1899)
        (
         R (Ending.returned (Value.bool false)) w1898)
        (
         ∃ n1900 : Int,
         ∃ n1901 : Int,
         ∃ n1902 : Int,
         ∃ p1903 : Option Addr,
         ∃ k1904 : Nat,
         ∃ k1905 : Nat,
         ∃ n1906 : Int,
         ∃ n1907 : Int,
         ∃ n1908 : Int,
         ∃ n1909 : Int,
         ∃ n1910 : Int,
         ∃ n1911 : Int,
         ∃ n1912 : Int,
         ∃ n1913 : Int,
         (
          Row w1898 { block := b37, off := (0 : Nat) } (0 : Nat) [Value.int IntKind.i64 n1900, Value.int IntKind.i64 n1901, Value.int IntKind.i64 n1902, Value.slice p1903 k1904 k1905, Value.int IntKind.i64 n1906, Value.int IntKind.i64 n1907, Value.int IntKind.i64 n1908, Value.int IntKind.i64 n1909, Value.int IntKind.i64 n1910, Value.int IntKind.i64 n1911, Value.int IntKind.i64 n1912, Value.int IntKind.i64 n1913]) ∧
         ∃ n1914 : Int,
         ∃ n1915 : Int,
         ∃ n1916 : Int,
         ∃ p1917 : Option Addr,
         ∃ k1918 : Nat,
         ∃ k1919 : Nat,
         ∃ n1920 : Int,
         ∃ n1921 : Int,
         ∃ n1922 : Int,
         ∃ n1923 : Int,
         ∃ n1924 : Int,
         ∃ n1925 : Int,
         ∃ n1926 : Int,
         ∃ n1927 : Int,
         (
          Row w1898 { block := b15, off := (0 : Nat) } (0 : Nat) [Value.int IntKind.i64 n1914, Value.int IntKind.i64 n1915, Value.int IntKind.i64 n1916, Value.slice p1917 k1918 k1919, Value.int IntKind.i64 n1920, Value.int IntKind.i64 n1921, Value.int IntKind.i64 n1922, Value.int IntKind.i64 n1923, Value.int IntKind.i64 n1924, Value.int IntKind.i64 n1925, Value.int IntKind.i64 n1926, Value.int IntKind.i64 n1927]) ∧
         Ca Try.prog (16 : Nat) #[Value.agg #[Value.int IntKind.i64 n1900, Value.int IntKind.i64 n1901, Value.int IntKind.i64 n1902, Value.slice p1903 k1904 k1905, Value.int IntKind.i64 n1906, Value.int IntKind.i64 n1907, Value.int IntKind.i64 n1908, Value.int IntKind.i64 n1909, Value.int IntKind.i64 n1910, Value.int IntKind.i64 n1911, Value.int IntKind.i64 n1912, Value.int IntKind.i64 n1913]] w1898 fun e1928 w1929 =>
         ∃ n1930 : Int,
         (
          e1928 = Ending.returned (Value.int IntKind.i64 n1930)) ∧
         (
          Row w1929 { block := b15, off := (0 : Nat) } (0 : Nat) [Value.int IntKind.i64 n1914, Value.int IntKind.i64 n1915, Value.int IntKind.i64 n1916, Value.slice p1917 k1918 k1919, Value.int IntKind.i64 n1920, Value.int IntKind.i64 n1921, Value.int IntKind.i64 n1922, Value.int IntKind.i64 n1923, Value.int IntKind.i64 n1924, Value.int IntKind.i64 n1925, Value.int IntKind.i64 n1926, Value.int IntKind.i64 n1927]) ∧
         Ca Try.prog (17 : Nat) #[Value.agg #[Value.int IntKind.i64 n1914, Value.int IntKind.i64 n1915, Value.int IntKind.i64 n1916, Value.slice p1917 k1918 k1919, Value.int IntKind.i64 n1920, Value.int IntKind.i64 n1921, Value.int IntKind.i64 n1922, Value.int IntKind.i64 n1923, Value.int IntKind.i64 n1924, Value.int IntKind.i64 n1925, Value.int IntKind.i64 n1926, Value.int IntKind.i64 n1927]] w1929 fun e1931 w1932 =>
         ∃ n1933 : Int,
         (
          e1931 = Ending.returned (Value.int IntKind.i64 n1933)) ∧
         Br (n1930 != n1933)
          (
           R (Ending.returned (Value.bool false)) w1932)
          (
           ∃ n1934 : Int,
           ∃ n1935 : Int,
           ∃ n1936 : Int,
           ∃ p1937 : Option Addr,
           ∃ k1938 : Nat,
           ∃ k1939 : Nat,
           ∃ n1940 : Int,
           ∃ n1941 : Int,
           ∃ n1942 : Int,
           ∃ n1943 : Int,
           ∃ n1944 : Int,
           ∃ n1945 : Int,
           ∃ n1946 : Int,
           ∃ n1947 : Int,
           (
            Row w1932 { block := b37, off := (0 : Nat) } (0 : Nat) [Value.int IntKind.i64 n1934, Value.int IntKind.i64 n1935, Value.int IntKind.i64 n1936, Value.slice p1937 k1938 k1939, Value.int IntKind.i64 n1940, Value.int IntKind.i64 n1941, Value.int IntKind.i64 n1942, Value.int IntKind.i64 n1943, Value.int IntKind.i64 n1944, Value.int IntKind.i64 n1945, Value.int IntKind.i64 n1946, Value.int IntKind.i64 n1947]) ∧
           Ca Try.prog (18 : Nat) #[Value.agg #[Value.int IntKind.i64 n1934, Value.int IntKind.i64 n1935, Value.int IntKind.i64 n1936, Value.slice p1937 k1938 k1939, Value.int IntKind.i64 n1940, Value.int IntKind.i64 n1941, Value.int IntKind.i64 n1942, Value.int IntKind.i64 n1943, Value.int IntKind.i64 n1944, Value.int IntKind.i64 n1945, Value.int IntKind.i64 n1946, Value.int IntKind.i64 n1947]] w1932 fun e1948 w1949 =>
           ∃ n1950 : Int,
           ∃ p1951 : Option Addr,
           ∃ k1952 : Nat,
           ∃ k1953 : Nat,
           ∃ n1954 : Int,
           ∃ n1955 : Int,
           (
            e1948 = Ending.returned (Value.tuple #[Value.agg #[Value.int IntKind.i64 n1950, Value.slice p1951 k1952 k1953, Value.int IntKind.i64 n1954], Value.int IntKind.i64 n1955])) ∧
           LetA (Obj.cells #[Value.int IntKind.i64 (0 : Int), Value.slice none (0 : Nat) (0 : Nat), Value.int IntKind.i64 (0 : Int)] (32 : Nat)) w1949 fun b1956 w1957 =>
           (
            WrRow w1957 { block := b1956, off := (0 : Nat) } (0 : Nat) [Value.int IntKind.i64 n1950, Value.slice p1951 k1952 k1953, Value.int IntKind.i64 n1954]) ∧
           LetW (setRow w1957 { block := b1956, off := (0 : Nat) } (0 : Nat) [Value.int IntKind.i64 n1950, Value.slice p1951 k1952 k1953, Value.int IntKind.i64 n1954]) fun w1958 =>
           ∃ n1959 : Int,
           ∃ n1960 : Int,
           ∃ n1961 : Int,
           ∃ p1962 : Option Addr,
           ∃ k1963 : Nat,
           ∃ k1964 : Nat,
           ∃ n1965 : Int,
           ∃ n1966 : Int,
           ∃ n1967 : Int,
           ∃ n1968 : Int,
           ∃ n1969 : Int,
           ∃ n1970 : Int,
           ∃ n1971 : Int,
           ∃ n1972 : Int,
           (
            Row w1958 { block := b15, off := (0 : Nat) } (0 : Nat) [Value.int IntKind.i64 n1959, Value.int IntKind.i64 n1960, Value.int IntKind.i64 n1961, Value.slice p1962 k1963 k1964, Value.int IntKind.i64 n1965, Value.int IntKind.i64 n1966, Value.int IntKind.i64 n1967, Value.int IntKind.i64 n1968, Value.int IntKind.i64 n1969, Value.int IntKind.i64 n1970, Value.int IntKind.i64 n1971, Value.int IntKind.i64 n1972]) ∧
           Ca Try.prog (19 : Nat) #[Value.agg #[Value.int IntKind.i64 n1959, Value.int IntKind.i64 n1960, Value.int IntKind.i64 n1961, Value.slice p1962 k1963 k1964, Value.int IntKind.i64 n1965, Value.int IntKind.i64 n1966, Value.int IntKind.i64 n1967, Value.int IntKind.i64 n1968, Value.int IntKind.i64 n1969, Value.int IntKind.i64 n1970, Value.int IntKind.i64 n1971, Value.int IntKind.i64 n1972]] w1958 fun e1973 w1974 =>
           ∃ n1975 : Int,
           ∃ p1976 : Option Addr,
           ∃ k1977 : Nat,
           ∃ k1978 : Nat,
           ∃ n1979 : Int,
           ∃ n1980 : Int,
           (
            e1973 = Ending.returned (Value.tuple #[Value.agg #[Value.int IntKind.i64 n1975, Value.slice p1976 k1977 k1978, Value.int IntKind.i64 n1979], Value.int IntKind.i64 n1980])) ∧
           LetA (Obj.cells #[Value.int IntKind.i64 (0 : Int), Value.slice none (0 : Nat) (0 : Nat), Value.int IntKind.i64 (0 : Int)] (32 : Nat)) w1974 fun b1981 w1982 =>
           (
            WrRow w1982 { block := b1981, off := (0 : Nat) } (0 : Nat) [Value.int IntKind.i64 n1975, Value.slice p1976 k1977 k1978, Value.int IntKind.i64 n1979]) ∧
           LetW (setRow w1982 { block := b1981, off := (0 : Nat) } (0 : Nat) [Value.int IntKind.i64 n1975, Value.slice p1976 k1977 k1978, Value.int IntKind.i64 n1979]) fun w1983 =>
           ∃ n1984 : Int,
           ∃ n1985 : Int,
           ∃ n1986 : Int,
           ∃ p1987 : Option Addr,
           ∃ k1988 : Nat,
           ∃ k1989 : Nat,
           ∃ n1990 : Int,
           ∃ n1991 : Int,
           ∃ n1992 : Int,
           ∃ n1993 : Int,
           ∃ n1994 : Int,
           ∃ n1995 : Int,
           ∃ n1996 : Int,
           ∃ n1997 : Int,
           (
            Row w1983 { block := b1555, off := (0 : Nat) } (0 : Nat) [Value.int IntKind.i64 n1984, Value.int IntKind.i64 n1985, Value.int IntKind.i64 n1986, Value.slice p1987 k1988 k1989, Value.int IntKind.i64 n1990, Value.int IntKind.i64 n1991, Value.int IntKind.i64 n1992, Value.int IntKind.i64 n1993, Value.int IntKind.i64 n1994, Value.int IntKind.i64 n1995, Value.int IntKind.i64 n1996, Value.int IntKind.i64 n1997]) ∧
           Ca Try.prog (18 : Nat) #[Value.agg #[Value.int IntKind.i64 n1984, Value.int IntKind.i64 n1985, Value.int IntKind.i64 n1986, Value.slice p1987 k1988 k1989, Value.int IntKind.i64 n1990, Value.int IntKind.i64 n1991, Value.int IntKind.i64 n1992, Value.int IntKind.i64 n1993, Value.int IntKind.i64 n1994, Value.int IntKind.i64 n1995, Value.int IntKind.i64 n1996, Value.int IntKind.i64 n1997]] w1983 fun e1998 w1999 =>
           ∃ n2000 : Int,
           ∃ p2001 : Option Addr,
           ∃ k2002 : Nat,
           ∃ k2003 : Nat,
           ∃ n2004 : Int,
           ∃ n2005 : Int,
           (
            e1998 = Ending.returned (Value.tuple #[Value.agg #[Value.int IntKind.i64 n2000, Value.slice p2001 k2002 k2003, Value.int IntKind.i64 n2004], Value.int IntKind.i64 n2005])) ∧
           LetA (Obj.cells #[Value.int IntKind.i64 (0 : Int), Value.slice none (0 : Nat) (0 : Nat), Value.int IntKind.i64 (0 : Int)] (32 : Nat)) w1999 fun b2006 w2007 =>
           (
            WrRow w2007 { block := b2006, off := (0 : Nat) } (0 : Nat) [Value.int IntKind.i64 n2000, Value.slice p2001 k2002 k2003, Value.int IntKind.i64 n2004]) ∧
           LetW (setRow w2007 { block := b2006, off := (0 : Nat) } (0 : Nat) [Value.int IntKind.i64 n2000, Value.slice p2001 k2002 k2003, Value.int IntKind.i64 n2004]) fun w2008 =>
           ∃ n2009 : Int,
           ∃ n2010 : Int,
           ∃ n2011 : Int,
           ∃ p2012 : Option Addr,
           ∃ k2013 : Nat,
           ∃ k2014 : Nat,
           ∃ n2015 : Int,
           ∃ n2016 : Int,
           ∃ n2017 : Int,
           ∃ n2018 : Int,
           ∃ n2019 : Int,
           ∃ n2020 : Int,
           ∃ n2021 : Int,
           ∃ n2022 : Int,
           (
            Row w2008 { block := b1818, off := (0 : Nat) } (0 : Nat) [Value.int IntKind.i64 n2009, Value.int IntKind.i64 n2010, Value.int IntKind.i64 n2011, Value.slice p2012 k2013 k2014, Value.int IntKind.i64 n2015, Value.int IntKind.i64 n2016, Value.int IntKind.i64 n2017, Value.int IntKind.i64 n2018, Value.int IntKind.i64 n2019, Value.int IntKind.i64 n2020, Value.int IntKind.i64 n2021, Value.int IntKind.i64 n2022]) ∧
           Ca Try.prog (19 : Nat) #[Value.agg #[Value.int IntKind.i64 n2009, Value.int IntKind.i64 n2010, Value.int IntKind.i64 n2011, Value.slice p2012 k2013 k2014, Value.int IntKind.i64 n2015, Value.int IntKind.i64 n2016, Value.int IntKind.i64 n2017, Value.int IntKind.i64 n2018, Value.int IntKind.i64 n2019, Value.int IntKind.i64 n2020, Value.int IntKind.i64 n2021, Value.int IntKind.i64 n2022]] w2008 fun e2023 w2024 =>
           ∃ n2025 : Int,
           ∃ p2026 : Option Addr,
           ∃ k2027 : Nat,
           ∃ k2028 : Nat,
           ∃ n2029 : Int,
           ∃ n2030 : Int,
           (
            e2023 = Ending.returned (Value.tuple #[Value.agg #[Value.int IntKind.i64 n2025, Value.slice p2026 k2027 k2028, Value.int IntKind.i64 n2029], Value.int IntKind.i64 n2030])) ∧
           LetA (Obj.cells #[Value.int IntKind.i64 (0 : Int), Value.slice none (0 : Nat) (0 : Nat), Value.int IntKind.i64 (0 : Int)] (32 : Nat)) w2024 fun b2031 w2032 =>
           (
            WrRow w2032 { block := b2031, off := (0 : Nat) } (0 : Nat) [Value.int IntKind.i64 n2025, Value.slice p2026 k2027 k2028, Value.int IntKind.i64 n2029]) ∧
           LetW (setRow w2032 { block := b2031, off := (0 : Nat) } (0 : Nat) [Value.int IntKind.i64 n2025, Value.slice p2026 k2027 k2028, Value.int IntKind.i64 n2029]) fun w2033 =>
           ∃ n2034 : Int,
           ∃ p2035 : Option Addr,
           ∃ k2036 : Nat,
           ∃ k2037 : Nat,
           ∃ n2038 : Int,
           (
            Row w2033 { block := b1956, off := (0 : Nat) } (0 : Nat) [Value.int IntKind.i64 n2034, Value.slice p2035 k2036 k2037, Value.int IntKind.i64 n2038]) ∧
           ∃ n2039 : Int,
           ∃ p2040 : Option Addr,
           ∃ k2041 : Nat,
           ∃ k2042 : Nat,
           ∃ n2043 : Int,
           (
            Row w2033 { block := b1981, off := (0 : Nat) } (0 : Nat) [Value.int IntKind.i64 n2039, Value.slice p2040 k2041 k2042, Value.int IntKind.i64 n2043]) ∧
           Ca Try.prog (20 : Nat) #[Value.agg #[Value.int IntKind.i64 n2034, Value.slice p2035 k2036 k2037, Value.int IntKind.i64 n2038], Value.agg #[Value.int IntKind.i64 n2039, Value.slice p2040 k2041 k2042, Value.int IntKind.i64 n2043]] w2033 fun e2044 w2045 =>
           ∃ b2046 : Bool,
           (
            e2044 = Ending.returned (Value.bool b2046)) ∧
           Br (b2046)
            (
             Br (n1955 == n1980)
              (
               ∃ n2047 : Int,
               ∃ p2048 : Option Addr,
               ∃ k2049 : Nat,
               ∃ k2050 : Nat,
               ∃ n2051 : Int,
               (
                Row w2045 { block := b2006, off := (0 : Nat) } (0 : Nat) [Value.int IntKind.i64 n2047, Value.slice p2048 k2049 k2050, Value.int IntKind.i64 n2051]) ∧
               ∃ n2052 : Int,
               ∃ p2053 : Option Addr,
               ∃ k2054 : Nat,
               ∃ k2055 : Nat,
               ∃ n2056 : Int,
               (
                Row w2045 { block := b2031, off := (0 : Nat) } (0 : Nat) [Value.int IntKind.i64 n2052, Value.slice p2053 k2054 k2055, Value.int IntKind.i64 n2056]) ∧
               Ca Try.prog (20 : Nat) #[Value.agg #[Value.int IntKind.i64 n2047, Value.slice p2048 k2049 k2050, Value.int IntKind.i64 n2051], Value.agg #[Value.int IntKind.i64 n2052, Value.slice p2053 k2054 k2055, Value.int IntKind.i64 n2056]] w2045 fun e2057 w2058 =>
               ∃ b2059 : Bool,
               (
                e2057 = Ending.returned (Value.bool b2059)) ∧
               Br (b2059)
                (
                 Br (n2005 == n2030)
                  (
                   Ca Try.prog (12 : Nat) #[] w2058 fun e2060 w2061 =>
                   ∃ b2062 : Bool,
                   (
                    e2060 = Ending.returned (Value.bool b2062)) ∧
                   R (Ending.returned (Value.bool b2062)) w2061)
                  (
                   R (Ending.returned (Value.bool false)) w2058))
                (
                 R (Ending.returned (Value.bool false)) w2058))
              (
               R (Ending.returned (Value.bool false)) w2045))
            (
             R (Ending.returned (Value.bool false)) w2045))))) ∧
    LetA (Obj.cells #[Value.int IntKind.i64 (0 : Int), Value.int IntKind.i64 (0 : Int), Value.int IntKind.i64 (0 : Int), Value.slice none (0 : Nat) (0 : Nat), Value.int IntKind.i64 (0 : Int), Value.int IntKind.i64 (0 : Int), Value.int IntKind.i64 (0 : Int), Value.int IntKind.i64 (0 : Int), Value.int IntKind.i64 (0 : Int), Value.int IntKind.i64 (0 : Int), Value.int IntKind.i64 (0 : Int), Value.int IntKind.i64 (0 : Int)] (24 : Nat)) w1556 fun b2063 w2064 =>
    (
     Row w2064 { block := b15, off := (0 : Nat) } (0 : Nat) [Value.int IntKind.i64 n63, Value.int IntKind.i64 n64, Value.int IntKind.i64 n65, Value.slice p66 k67 k68, Value.int IntKind.i64 n69, Value.int IntKind.i64 n70, Value.int IntKind.i64 n71, Value.int IntKind.i64 n72, Value.int IntKind.i64 n73, Value.int IntKind.i64 n74, Value.int IntKind.i64 n75, Value.int IntKind.i64 n76]) ∧
    (
     Row w2064 { block := b37, off := (0 : Nat) } (0 : Nat) [Value.int IntKind.i64 n49, Value.int IntKind.i64 n50, Value.int IntKind.i64 n51, Value.slice p52 k53 k54, Value.int IntKind.i64 n55, Value.int IntKind.i64 n56, Value.int IntKind.i64 n57, Value.int IntKind.i64 n58, Value.int IntKind.i64 n59, Value.int IntKind.i64 n60, Value.int IntKind.i64 n61, Value.int IntKind.i64 n62]) ∧
    Ca Try.prog (13 : Nat) #[Value.agg #[Value.int IntKind.i64 n49, Value.int IntKind.i64 n50, Value.int IntKind.i64 n51, Value.slice p52 k53 k54, Value.int IntKind.i64 n55, Value.int IntKind.i64 n56, Value.int IntKind.i64 n57, Value.int IntKind.i64 n58, Value.int IntKind.i64 n59, Value.int IntKind.i64 n60, Value.int IntKind.i64 n61, Value.int IntKind.i64 n62]] w2064 fun e2065 w2066 =>
    ∃ n2067 : Int,
    ∃ n2068 : Int,
    ∃ n2069 : Int,
    ∃ p2070 : Option Addr,
    ∃ k2071 : Nat,
    ∃ k2072 : Nat,
    ∃ n2073 : Int,
    ∃ n2074 : Int,
    ∃ n2075 : Int,
    ∃ n2076 : Int,
    ∃ n2077 : Int,
    ∃ n2078 : Int,
    ∃ n2079 : Int,
    ∃ n2080 : Int,
    (
     e2065 = Ending.returned (Value.agg #[Value.int IntKind.i64 n2067, Value.int IntKind.i64 n2068, Value.int IntKind.i64 n2069, Value.slice p2070 k2071 k2072, Value.int IntKind.i64 n2073, Value.int IntKind.i64 n2074, Value.int IntKind.i64 n2075, Value.int IntKind.i64 n2076, Value.int IntKind.i64 n2077, Value.int IntKind.i64 n2078, Value.int IntKind.i64 n2079, Value.int IntKind.i64 n2080])) ∧
    (
     Row w2066 { block := b15, off := (0 : Nat) } (0 : Nat) [Value.int IntKind.i64 n63, Value.int IntKind.i64 n64, Value.int IntKind.i64 n65, Value.slice p66 k67 k68, Value.int IntKind.i64 n69, Value.int IntKind.i64 n70, Value.int IntKind.i64 n71, Value.int IntKind.i64 n72, Value.int IntKind.i64 n73, Value.int IntKind.i64 n74, Value.int IntKind.i64 n75, Value.int IntKind.i64 n76]) ∧
    Ca Try.prog (14 : Nat) #[Value.agg #[Value.int IntKind.i64 n63, Value.int IntKind.i64 n64, Value.int IntKind.i64 n65, Value.slice p66 k67 k68, Value.int IntKind.i64 n69, Value.int IntKind.i64 n70, Value.int IntKind.i64 n71, Value.int IntKind.i64 n72, Value.int IntKind.i64 n73, Value.int IntKind.i64 n74, Value.int IntKind.i64 n75, Value.int IntKind.i64 n76]] w2066 fun e2081 w2082 =>
    ∃ n2083 : Int,
    ∃ n2084 : Int,
    ∃ n2085 : Int,
    ∃ p2086 : Option Addr,
    ∃ k2087 : Nat,
    ∃ k2088 : Nat,
    ∃ n2089 : Int,
    ∃ n2090 : Int,
    ∃ n2091 : Int,
    ∃ n2092 : Int,
    ∃ n2093 : Int,
    ∃ n2094 : Int,
    ∃ n2095 : Int,
    ∃ n2096 : Int,
    (
     e2081 = Ending.returned (Value.agg #[Value.int IntKind.i64 n2083, Value.int IntKind.i64 n2084, Value.int IntKind.i64 n2085, Value.slice p2086 k2087 k2088, Value.int IntKind.i64 n2089, Value.int IntKind.i64 n2090, Value.int IntKind.i64 n2091, Value.int IntKind.i64 n2092, Value.int IntKind.i64 n2093, Value.int IntKind.i64 n2094, Value.int IntKind.i64 n2095, Value.int IntKind.i64 n2096])) ∧
    (
     WrRow w2082 { block := b1555, off := (0 : Nat) } (0 : Nat) [Value.int IntKind.i64 n2067, Value.int IntKind.i64 n2068, Value.int IntKind.i64 n2069, Value.slice p2070 k2071 k2072, Value.int IntKind.i64 n2073, Value.int IntKind.i64 n2074, Value.int IntKind.i64 n2075, Value.int IntKind.i64 n2076, Value.int IntKind.i64 n2077, Value.int IntKind.i64 n2078, Value.int IntKind.i64 n2079, Value.int IntKind.i64 n2080]) ∧
    LetW (setRow w2082 { block := b1555, off := (0 : Nat) } (0 : Nat) [Value.int IntKind.i64 n2067, Value.int IntKind.i64 n2068, Value.int IntKind.i64 n2069, Value.slice p2070 k2071 k2072, Value.int IntKind.i64 n2073, Value.int IntKind.i64 n2074, Value.int IntKind.i64 n2075, Value.int IntKind.i64 n2076, Value.int IntKind.i64 n2077, Value.int IntKind.i64 n2078, Value.int IntKind.i64 n2079, Value.int IntKind.i64 n2080]) fun w2097 =>
    (
     WrRow w2097 { block := b2063, off := (0 : Nat) } (0 : Nat) [Value.int IntKind.i64 n2083, Value.int IntKind.i64 n2084, Value.int IntKind.i64 n2085, Value.slice p2086 k2087 k2088, Value.int IntKind.i64 n2089, Value.int IntKind.i64 n2090, Value.int IntKind.i64 n2091, Value.int IntKind.i64 n2092, Value.int IntKind.i64 n2093, Value.int IntKind.i64 n2094, Value.int IntKind.i64 n2095, Value.int IntKind.i64 n2096]) ∧
    LetW (setRow w2097 { block := b2063, off := (0 : Nat) } (0 : Nat) [Value.int IntKind.i64 n2083, Value.int IntKind.i64 n2084, Value.int IntKind.i64 n2085, Value.slice p2086 k2087 k2088, Value.int IntKind.i64 n2089, Value.int IntKind.i64 n2090, Value.int IntKind.i64 n2091, Value.int IntKind.i64 n2092, Value.int IntKind.i64 n2093, Value.int IntKind.i64 n2094, Value.int IntKind.i64 n2095, Value.int IntKind.i64 n2096]) fun w2098 =>
    ∃ n2099 : Int,
    ∃ n2100 : Int,
    ∃ n2101 : Int,
    ∃ p2102 : Option Addr,
    ∃ k2103 : Nat,
    ∃ k2104 : Nat,
    ∃ n2105 : Int,
    ∃ n2106 : Int,
    ∃ n2107 : Int,
    ∃ n2108 : Int,
    ∃ n2109 : Int,
    ∃ n2110 : Int,
    ∃ n2111 : Int,
    ∃ n2112 : Int,
    (
     Row w2098 { block := b1555, off := (0 : Nat) } (0 : Nat) [Value.int IntKind.i64 n2099, Value.int IntKind.i64 n2100, Value.int IntKind.i64 n2101, Value.slice p2102 k2103 k2104, Value.int IntKind.i64 n2105, Value.int IntKind.i64 n2106, Value.int IntKind.i64 n2107, Value.int IntKind.i64 n2108, Value.int IntKind.i64 n2109, Value.int IntKind.i64 n2110, Value.int IntKind.i64 n2111, Value.int IntKind.i64 n2112]) ∧
    ∃ n2113 : Int,
    ∃ n2114 : Int,
    ∃ n2115 : Int,
    ∃ p2116 : Option Addr,
    ∃ k2117 : Nat,
    ∃ k2118 : Nat,
    ∃ n2119 : Int,
    ∃ n2120 : Int,
    ∃ n2121 : Int,
    ∃ n2122 : Int,
    ∃ n2123 : Int,
    ∃ n2124 : Int,
    ∃ n2125 : Int,
    ∃ n2126 : Int,
    (
     Row w2098 { block := b2063, off := (0 : Nat) } (0 : Nat) [Value.int IntKind.i64 n2113, Value.int IntKind.i64 n2114, Value.int IntKind.i64 n2115, Value.slice p2116 k2117 k2118, Value.int IntKind.i64 n2119, Value.int IntKind.i64 n2120, Value.int IntKind.i64 n2121, Value.int IntKind.i64 n2122, Value.int IntKind.i64 n2123, Value.int IntKind.i64 n2124, Value.int IntKind.i64 n2125, Value.int IntKind.i64 n2126]) ∧
    Ca Try.prog (15 : Nat) #[Value.agg #[Value.int IntKind.i64 n2099, Value.int IntKind.i64 n2100, Value.int IntKind.i64 n2101, Value.slice p2102 k2103 k2104, Value.int IntKind.i64 n2105, Value.int IntKind.i64 n2106, Value.int IntKind.i64 n2107, Value.int IntKind.i64 n2108, Value.int IntKind.i64 n2109, Value.int IntKind.i64 n2110, Value.int IntKind.i64 n2111, Value.int IntKind.i64 n2112], Value.agg #[Value.int IntKind.i64 n2113, Value.int IntKind.i64 n2114, Value.int IntKind.i64 n2115, Value.slice p2116 k2117 k2118, Value.int IntKind.i64 n2119, Value.int IntKind.i64 n2120, Value.int IntKind.i64 n2121, Value.int IntKind.i64 n2122, Value.int IntKind.i64 n2123, Value.int IntKind.i64 n2124, Value.int IntKind.i64 n2125, Value.int IntKind.i64 n2126]] w2098 fun e2127 w2128 =>
    ∃ b2129 : Bool,
    (
     e2127 = Ending.returned (Value.bool b2129)) ∧
    Br (!b2129)
     (
      R (Ending.returned (Value.bool false)) w2128)
     (
      ∃ n2130 : Int,
      ∃ n2131 : Int,
      ∃ n2132 : Int,
      ∃ p2133 : Option Addr,
      ∃ k2134 : Nat,
      ∃ k2135 : Nat,
      ∃ n2136 : Int,
      ∃ n2137 : Int,
      ∃ n2138 : Int,
      ∃ n2139 : Int,
      ∃ n2140 : Int,
      ∃ n2141 : Int,
      ∃ n2142 : Int,
      ∃ n2143 : Int,
      (
       Row w2128 { block := b37, off := (0 : Nat) } (0 : Nat) [Value.int IntKind.i64 n2130, Value.int IntKind.i64 n2131, Value.int IntKind.i64 n2132, Value.slice p2133 k2134 k2135, Value.int IntKind.i64 n2136, Value.int IntKind.i64 n2137, Value.int IntKind.i64 n2138, Value.int IntKind.i64 n2139, Value.int IntKind.i64 n2140, Value.int IntKind.i64 n2141, Value.int IntKind.i64 n2142, Value.int IntKind.i64 n2143]) ∧
      ∃ n2144 : Int,
      ∃ n2145 : Int,
      ∃ n2146 : Int,
      ∃ p2147 : Option Addr,
      ∃ k2148 : Nat,
      ∃ k2149 : Nat,
      ∃ n2150 : Int,
      ∃ n2151 : Int,
      ∃ n2152 : Int,
      ∃ n2153 : Int,
      ∃ n2154 : Int,
      ∃ n2155 : Int,
      ∃ n2156 : Int,
      ∃ n2157 : Int,
      (
       Row w2128 { block := b15, off := (0 : Nat) } (0 : Nat) [Value.int IntKind.i64 n2144, Value.int IntKind.i64 n2145, Value.int IntKind.i64 n2146, Value.slice p2147 k2148 k2149, Value.int IntKind.i64 n2150, Value.int IntKind.i64 n2151, Value.int IntKind.i64 n2152, Value.int IntKind.i64 n2153, Value.int IntKind.i64 n2154, Value.int IntKind.i64 n2155, Value.int IntKind.i64 n2156, Value.int IntKind.i64 n2157]) ∧
      Ca Try.prog (15 : Nat) #[Value.agg #[Value.int IntKind.i64 n2130, Value.int IntKind.i64 n2131, Value.int IntKind.i64 n2132, Value.slice p2133 k2134 k2135, Value.int IntKind.i64 n2136, Value.int IntKind.i64 n2137, Value.int IntKind.i64 n2138, Value.int IntKind.i64 n2139, Value.int IntKind.i64 n2140, Value.int IntKind.i64 n2141, Value.int IntKind.i64 n2142, Value.int IntKind.i64 n2143], Value.agg #[Value.int IntKind.i64 n2144, Value.int IntKind.i64 n2145, Value.int IntKind.i64 n2146, Value.slice p2147 k2148 k2149, Value.int IntKind.i64 n2150, Value.int IntKind.i64 n2151, Value.int IntKind.i64 n2152, Value.int IntKind.i64 n2153, Value.int IntKind.i64 n2154, Value.int IntKind.i64 n2155, Value.int IntKind.i64 n2156, Value.int IntKind.i64 n2157]] w2128 fun e2158 w2159 =>
      ∃ b2160 : Bool,
      (
       e2158 = Ending.returned (Value.bool b2160)) ∧
      Br (!b2160)
       (
        R (Ending.returned (Value.bool false)) w2159)
       (
        ∃ n2161 : Int,
        ∃ n2162 : Int,
        ∃ n2163 : Int,
        ∃ p2164 : Option Addr,
        ∃ k2165 : Nat,
        ∃ k2166 : Nat,
        ∃ n2167 : Int,
        ∃ n2168 : Int,
        ∃ n2169 : Int,
        ∃ n2170 : Int,
        ∃ n2171 : Int,
        ∃ n2172 : Int,
        ∃ n2173 : Int,
        ∃ n2174 : Int,
        (
         Row w2159 { block := b37, off := (0 : Nat) } (0 : Nat) [Value.int IntKind.i64 n2161, Value.int IntKind.i64 n2162, Value.int IntKind.i64 n2163, Value.slice p2164 k2165 k2166, Value.int IntKind.i64 n2167, Value.int IntKind.i64 n2168, Value.int IntKind.i64 n2169, Value.int IntKind.i64 n2170, Value.int IntKind.i64 n2171, Value.int IntKind.i64 n2172, Value.int IntKind.i64 n2173, Value.int IntKind.i64 n2174]) ∧
        ∃ n2175 : Int,
        ∃ n2176 : Int,
        ∃ n2177 : Int,
        ∃ p2178 : Option Addr,
        ∃ k2179 : Nat,
        ∃ k2180 : Nat,
        ∃ n2181 : Int,
        ∃ n2182 : Int,
        ∃ n2183 : Int,
        ∃ n2184 : Int,
        ∃ n2185 : Int,
        ∃ n2186 : Int,
        ∃ n2187 : Int,
        ∃ n2188 : Int,
        (
         Row w2159 { block := b15, off := (0 : Nat) } (0 : Nat) [Value.int IntKind.i64 n2175, Value.int IntKind.i64 n2176, Value.int IntKind.i64 n2177, Value.slice p2178 k2179 k2180, Value.int IntKind.i64 n2181, Value.int IntKind.i64 n2182, Value.int IntKind.i64 n2183, Value.int IntKind.i64 n2184, Value.int IntKind.i64 n2185, Value.int IntKind.i64 n2186, Value.int IntKind.i64 n2187, Value.int IntKind.i64 n2188]) ∧
        Ca Try.prog (16 : Nat) #[Value.agg #[Value.int IntKind.i64 n2161, Value.int IntKind.i64 n2162, Value.int IntKind.i64 n2163, Value.slice p2164 k2165 k2166, Value.int IntKind.i64 n2167, Value.int IntKind.i64 n2168, Value.int IntKind.i64 n2169, Value.int IntKind.i64 n2170, Value.int IntKind.i64 n2171, Value.int IntKind.i64 n2172, Value.int IntKind.i64 n2173, Value.int IntKind.i64 n2174]] w2159 fun e2189 w2190 =>
        ∃ n2191 : Int,
        (
         e2189 = Ending.returned (Value.int IntKind.i64 n2191)) ∧
        (
         Row w2190 { block := b15, off := (0 : Nat) } (0 : Nat) [Value.int IntKind.i64 n2175, Value.int IntKind.i64 n2176, Value.int IntKind.i64 n2177, Value.slice p2178 k2179 k2180, Value.int IntKind.i64 n2181, Value.int IntKind.i64 n2182, Value.int IntKind.i64 n2183, Value.int IntKind.i64 n2184, Value.int IntKind.i64 n2185, Value.int IntKind.i64 n2186, Value.int IntKind.i64 n2187, Value.int IntKind.i64 n2188]) ∧
        Ca Try.prog (17 : Nat) #[Value.agg #[Value.int IntKind.i64 n2175, Value.int IntKind.i64 n2176, Value.int IntKind.i64 n2177, Value.slice p2178 k2179 k2180, Value.int IntKind.i64 n2181, Value.int IntKind.i64 n2182, Value.int IntKind.i64 n2183, Value.int IntKind.i64 n2184, Value.int IntKind.i64 n2185, Value.int IntKind.i64 n2186, Value.int IntKind.i64 n2187, Value.int IntKind.i64 n2188]] w2190 fun e2192 w2193 =>
        ∃ n2194 : Int,
        (
         e2192 = Ending.returned (Value.int IntKind.i64 n2194)) ∧
        Br (n2191 != n2194)
         (
          R (Ending.returned (Value.bool false)) w2193)
         (
          ∃ n2195 : Int,
          ∃ n2196 : Int,
          ∃ n2197 : Int,
          ∃ p2198 : Option Addr,
          ∃ k2199 : Nat,
          ∃ k2200 : Nat,
          ∃ n2201 : Int,
          ∃ n2202 : Int,
          ∃ n2203 : Int,
          ∃ n2204 : Int,
          ∃ n2205 : Int,
          ∃ n2206 : Int,
          ∃ n2207 : Int,
          ∃ n2208 : Int,
          (
           Row w2193 { block := b37, off := (0 : Nat) } (0 : Nat) [Value.int IntKind.i64 n2195, Value.int IntKind.i64 n2196, Value.int IntKind.i64 n2197, Value.slice p2198 k2199 k2200, Value.int IntKind.i64 n2201, Value.int IntKind.i64 n2202, Value.int IntKind.i64 n2203, Value.int IntKind.i64 n2204, Value.int IntKind.i64 n2205, Value.int IntKind.i64 n2206, Value.int IntKind.i64 n2207, Value.int IntKind.i64 n2208]) ∧
          Ca Try.prog (18 : Nat) #[Value.agg #[Value.int IntKind.i64 n2195, Value.int IntKind.i64 n2196, Value.int IntKind.i64 n2197, Value.slice p2198 k2199 k2200, Value.int IntKind.i64 n2201, Value.int IntKind.i64 n2202, Value.int IntKind.i64 n2203, Value.int IntKind.i64 n2204, Value.int IntKind.i64 n2205, Value.int IntKind.i64 n2206, Value.int IntKind.i64 n2207, Value.int IntKind.i64 n2208]] w2193 fun e2209 w2210 =>
          ∃ n2211 : Int,
          ∃ p2212 : Option Addr,
          ∃ k2213 : Nat,
          ∃ k2214 : Nat,
          ∃ n2215 : Int,
          ∃ n2216 : Int,
          (
           e2209 = Ending.returned (Value.tuple #[Value.agg #[Value.int IntKind.i64 n2211, Value.slice p2212 k2213 k2214, Value.int IntKind.i64 n2215], Value.int IntKind.i64 n2216])) ∧
          LetA (Obj.cells #[Value.int IntKind.i64 (0 : Int), Value.slice none (0 : Nat) (0 : Nat), Value.int IntKind.i64 (0 : Int)] (32 : Nat)) w2210 fun b2217 w2218 =>
          (
           WrRow w2218 { block := b2217, off := (0 : Nat) } (0 : Nat) [Value.int IntKind.i64 n2211, Value.slice p2212 k2213 k2214, Value.int IntKind.i64 n2215]) ∧
          LetW (setRow w2218 { block := b2217, off := (0 : Nat) } (0 : Nat) [Value.int IntKind.i64 n2211, Value.slice p2212 k2213 k2214, Value.int IntKind.i64 n2215]) fun w2219 =>
          ∃ n2220 : Int,
          ∃ n2221 : Int,
          ∃ n2222 : Int,
          ∃ p2223 : Option Addr,
          ∃ k2224 : Nat,
          ∃ k2225 : Nat,
          ∃ n2226 : Int,
          ∃ n2227 : Int,
          ∃ n2228 : Int,
          ∃ n2229 : Int,
          ∃ n2230 : Int,
          ∃ n2231 : Int,
          ∃ n2232 : Int,
          ∃ n2233 : Int,
          (
           Row w2219 { block := b15, off := (0 : Nat) } (0 : Nat) [Value.int IntKind.i64 n2220, Value.int IntKind.i64 n2221, Value.int IntKind.i64 n2222, Value.slice p2223 k2224 k2225, Value.int IntKind.i64 n2226, Value.int IntKind.i64 n2227, Value.int IntKind.i64 n2228, Value.int IntKind.i64 n2229, Value.int IntKind.i64 n2230, Value.int IntKind.i64 n2231, Value.int IntKind.i64 n2232, Value.int IntKind.i64 n2233]) ∧
          Ca Try.prog (19 : Nat) #[Value.agg #[Value.int IntKind.i64 n2220, Value.int IntKind.i64 n2221, Value.int IntKind.i64 n2222, Value.slice p2223 k2224 k2225, Value.int IntKind.i64 n2226, Value.int IntKind.i64 n2227, Value.int IntKind.i64 n2228, Value.int IntKind.i64 n2229, Value.int IntKind.i64 n2230, Value.int IntKind.i64 n2231, Value.int IntKind.i64 n2232, Value.int IntKind.i64 n2233]] w2219 fun e2234 w2235 =>
          ∃ n2236 : Int,
          ∃ p2237 : Option Addr,
          ∃ k2238 : Nat,
          ∃ k2239 : Nat,
          ∃ n2240 : Int,
          ∃ n2241 : Int,
          (
           e2234 = Ending.returned (Value.tuple #[Value.agg #[Value.int IntKind.i64 n2236, Value.slice p2237 k2238 k2239, Value.int IntKind.i64 n2240], Value.int IntKind.i64 n2241])) ∧
          LetA (Obj.cells #[Value.int IntKind.i64 (0 : Int), Value.slice none (0 : Nat) (0 : Nat), Value.int IntKind.i64 (0 : Int)] (32 : Nat)) w2235 fun b2242 w2243 =>
          (
           WrRow w2243 { block := b2242, off := (0 : Nat) } (0 : Nat) [Value.int IntKind.i64 n2236, Value.slice p2237 k2238 k2239, Value.int IntKind.i64 n2240]) ∧
          LetW (setRow w2243 { block := b2242, off := (0 : Nat) } (0 : Nat) [Value.int IntKind.i64 n2236, Value.slice p2237 k2238 k2239, Value.int IntKind.i64 n2240]) fun w2244 =>
          ∃ n2245 : Int,
          ∃ n2246 : Int,
          ∃ n2247 : Int,
          ∃ p2248 : Option Addr,
          ∃ k2249 : Nat,
          ∃ k2250 : Nat,
          ∃ n2251 : Int,
          ∃ n2252 : Int,
          ∃ n2253 : Int,
          ∃ n2254 : Int,
          ∃ n2255 : Int,
          ∃ n2256 : Int,
          ∃ n2257 : Int,
          ∃ n2258 : Int,
          (
           Row w2244 { block := b1555, off := (0 : Nat) } (0 : Nat) [Value.int IntKind.i64 n2245, Value.int IntKind.i64 n2246, Value.int IntKind.i64 n2247, Value.slice p2248 k2249 k2250, Value.int IntKind.i64 n2251, Value.int IntKind.i64 n2252, Value.int IntKind.i64 n2253, Value.int IntKind.i64 n2254, Value.int IntKind.i64 n2255, Value.int IntKind.i64 n2256, Value.int IntKind.i64 n2257, Value.int IntKind.i64 n2258]) ∧
          Ca Try.prog (18 : Nat) #[Value.agg #[Value.int IntKind.i64 n2245, Value.int IntKind.i64 n2246, Value.int IntKind.i64 n2247, Value.slice p2248 k2249 k2250, Value.int IntKind.i64 n2251, Value.int IntKind.i64 n2252, Value.int IntKind.i64 n2253, Value.int IntKind.i64 n2254, Value.int IntKind.i64 n2255, Value.int IntKind.i64 n2256, Value.int IntKind.i64 n2257, Value.int IntKind.i64 n2258]] w2244 fun e2259 w2260 =>
          ∃ n2261 : Int,
          ∃ p2262 : Option Addr,
          ∃ k2263 : Nat,
          ∃ k2264 : Nat,
          ∃ n2265 : Int,
          ∃ n2266 : Int,
          (
           e2259 = Ending.returned (Value.tuple #[Value.agg #[Value.int IntKind.i64 n2261, Value.slice p2262 k2263 k2264, Value.int IntKind.i64 n2265], Value.int IntKind.i64 n2266])) ∧
          LetA (Obj.cells #[Value.int IntKind.i64 (0 : Int), Value.slice none (0 : Nat) (0 : Nat), Value.int IntKind.i64 (0 : Int)] (32 : Nat)) w2260 fun b2267 w2268 =>
          (
           WrRow w2268 { block := b2267, off := (0 : Nat) } (0 : Nat) [Value.int IntKind.i64 n2261, Value.slice p2262 k2263 k2264, Value.int IntKind.i64 n2265]) ∧
          LetW (setRow w2268 { block := b2267, off := (0 : Nat) } (0 : Nat) [Value.int IntKind.i64 n2261, Value.slice p2262 k2263 k2264, Value.int IntKind.i64 n2265]) fun w2269 =>
          ∃ n2270 : Int,
          ∃ n2271 : Int,
          ∃ n2272 : Int,
          ∃ p2273 : Option Addr,
          ∃ k2274 : Nat,
          ∃ k2275 : Nat,
          ∃ n2276 : Int,
          ∃ n2277 : Int,
          ∃ n2278 : Int,
          ∃ n2279 : Int,
          ∃ n2280 : Int,
          ∃ n2281 : Int,
          ∃ n2282 : Int,
          ∃ n2283 : Int,
          (
           Row w2269 { block := b2063, off := (0 : Nat) } (0 : Nat) [Value.int IntKind.i64 n2270, Value.int IntKind.i64 n2271, Value.int IntKind.i64 n2272, Value.slice p2273 k2274 k2275, Value.int IntKind.i64 n2276, Value.int IntKind.i64 n2277, Value.int IntKind.i64 n2278, Value.int IntKind.i64 n2279, Value.int IntKind.i64 n2280, Value.int IntKind.i64 n2281, Value.int IntKind.i64 n2282, Value.int IntKind.i64 n2283]) ∧
          Ca Try.prog (19 : Nat) #[Value.agg #[Value.int IntKind.i64 n2270, Value.int IntKind.i64 n2271, Value.int IntKind.i64 n2272, Value.slice p2273 k2274 k2275, Value.int IntKind.i64 n2276, Value.int IntKind.i64 n2277, Value.int IntKind.i64 n2278, Value.int IntKind.i64 n2279, Value.int IntKind.i64 n2280, Value.int IntKind.i64 n2281, Value.int IntKind.i64 n2282, Value.int IntKind.i64 n2283]] w2269 fun e2284 w2285 =>
          ∃ n2286 : Int,
          ∃ p2287 : Option Addr,
          ∃ k2288 : Nat,
          ∃ k2289 : Nat,
          ∃ n2290 : Int,
          ∃ n2291 : Int,
          (
           e2284 = Ending.returned (Value.tuple #[Value.agg #[Value.int IntKind.i64 n2286, Value.slice p2287 k2288 k2289, Value.int IntKind.i64 n2290], Value.int IntKind.i64 n2291])) ∧
          LetA (Obj.cells #[Value.int IntKind.i64 (0 : Int), Value.slice none (0 : Nat) (0 : Nat), Value.int IntKind.i64 (0 : Int)] (32 : Nat)) w2285 fun b2292 w2293 =>
          (
           WrRow w2293 { block := b2292, off := (0 : Nat) } (0 : Nat) [Value.int IntKind.i64 n2286, Value.slice p2287 k2288 k2289, Value.int IntKind.i64 n2290]) ∧
          LetW (setRow w2293 { block := b2292, off := (0 : Nat) } (0 : Nat) [Value.int IntKind.i64 n2286, Value.slice p2287 k2288 k2289, Value.int IntKind.i64 n2290]) fun w2294 =>
          ∃ n2295 : Int,
          ∃ p2296 : Option Addr,
          ∃ k2297 : Nat,
          ∃ k2298 : Nat,
          ∃ n2299 : Int,
          (
           Row w2294 { block := b2217, off := (0 : Nat) } (0 : Nat) [Value.int IntKind.i64 n2295, Value.slice p2296 k2297 k2298, Value.int IntKind.i64 n2299]) ∧
          ∃ n2300 : Int,
          ∃ p2301 : Option Addr,
          ∃ k2302 : Nat,
          ∃ k2303 : Nat,
          ∃ n2304 : Int,
          (
           Row w2294 { block := b2242, off := (0 : Nat) } (0 : Nat) [Value.int IntKind.i64 n2300, Value.slice p2301 k2302 k2303, Value.int IntKind.i64 n2304]) ∧
          Ca Try.prog (20 : Nat) #[Value.agg #[Value.int IntKind.i64 n2295, Value.slice p2296 k2297 k2298, Value.int IntKind.i64 n2299], Value.agg #[Value.int IntKind.i64 n2300, Value.slice p2301 k2302 k2303, Value.int IntKind.i64 n2304]] w2294 fun e2305 w2306 =>
          ∃ b2307 : Bool,
          (
           e2305 = Ending.returned (Value.bool b2307)) ∧
          Br (b2307)
           (
            Br (n2216 == n2241)
             (
              ∃ n2308 : Int,
              ∃ p2309 : Option Addr,
              ∃ k2310 : Nat,
              ∃ k2311 : Nat,
              ∃ n2312 : Int,
              (
               Row w2306 { block := b2267, off := (0 : Nat) } (0 : Nat) [Value.int IntKind.i64 n2308, Value.slice p2309 k2310 k2311, Value.int IntKind.i64 n2312]) ∧
              ∃ n2313 : Int,
              ∃ p2314 : Option Addr,
              ∃ k2315 : Nat,
              ∃ k2316 : Nat,
              ∃ n2317 : Int,
              (
               Row w2306 { block := b2292, off := (0 : Nat) } (0 : Nat) [Value.int IntKind.i64 n2313, Value.slice p2314 k2315 k2316, Value.int IntKind.i64 n2317]) ∧
              Ca Try.prog (20 : Nat) #[Value.agg #[Value.int IntKind.i64 n2308, Value.slice p2309 k2310 k2311, Value.int IntKind.i64 n2312], Value.agg #[Value.int IntKind.i64 n2313, Value.slice p2314 k2315 k2316, Value.int IntKind.i64 n2317]] w2306 fun e2318 w2319 =>
              ∃ b2320 : Bool,
              (
               e2318 = Ending.returned (Value.bool b2320)) ∧
              Br (b2320)
               (
                Br (n2266 == n2291)
                 (
                  Ca Try.prog (12 : Nat) #[] w2319 fun e2321 w2322 =>
                  ∃ b2323 : Bool,
                  (
                   e2321 = Ending.returned (Value.bool b2323)) ∧
                  R (Ending.returned (Value.bool b2323)) w2322)
                 (
                  R (Ending.returned (Value.bool false)) w2319))
               (
                R (Ending.returned (Value.bool false)) w2319))
             (
              R (Ending.returned (Value.bool false)) w2306))
           (
            R (Ending.returned (Value.bool false)) w2306))))) ∧
   LetA (Obj.cells #[Value.int IntKind.i64 (0 : Int), Value.int IntKind.i64 (0 : Int), Value.int IntKind.i64 (0 : Int), Value.slice none (0 : Nat) (0 : Nat), Value.int IntKind.i64 (0 : Int), Value.int IntKind.i64 (0 : Int), Value.int IntKind.i64 (0 : Int), Value.int IntKind.i64 (0 : Int), Value.int IntKind.i64 (0 : Int), Value.int IntKind.i64 (0 : Int), Value.int IntKind.i64 (0 : Int), Value.int IntKind.i64 (0 : Int)] (24 : Nat)) w48 fun b2324 w2325 =>
   (
    Row w2325 { block := b15, off := (0 : Nat) } (0 : Nat) [Value.int IntKind.i64 n63, Value.int IntKind.i64 n64, Value.int IntKind.i64 n65, Value.slice p66 k67 k68, Value.int IntKind.i64 n69, Value.int IntKind.i64 n70, Value.int IntKind.i64 n71, Value.int IntKind.i64 n72, Value.int IntKind.i64 n73, Value.int IntKind.i64 n74, Value.int IntKind.i64 n75, Value.int IntKind.i64 n76]) ∧
   (
    Row w2325 { block := b37, off := (0 : Nat) } (0 : Nat) [Value.int IntKind.i64 n49, Value.int IntKind.i64 n50, Value.int IntKind.i64 n51, Value.slice p52 k53 k54, Value.int IntKind.i64 n55, Value.int IntKind.i64 n56, Value.int IntKind.i64 n57, Value.int IntKind.i64 n58, Value.int IntKind.i64 n59, Value.int IntKind.i64 n60, Value.int IntKind.i64 n61, Value.int IntKind.i64 n62]) ∧
   (
    Ca Try.prog (13 : Nat) #[Value.agg #[Value.int IntKind.i64 n49, Value.int IntKind.i64 n50, Value.int IntKind.i64 n51, Value.slice p52 k53 k54, Value.int IntKind.i64 n55, Value.int IntKind.i64 n56, Value.int IntKind.i64 n57, Value.int IntKind.i64 n58, Value.int IntKind.i64 n59, Value.int IntKind.i64 n60, Value.int IntKind.i64 n61, Value.int IntKind.i64 n62]] w2325 fun e2326 w2327 =>
    ∃ n2328 : Int,
    ∃ n2329 : Int,
    ∃ n2330 : Int,
    ∃ p2331 : Option Addr,
    ∃ k2332 : Nat,
    ∃ k2333 : Nat,
    ∃ n2334 : Int,
    ∃ n2335 : Int,
    ∃ n2336 : Int,
    ∃ n2337 : Int,
    ∃ n2338 : Int,
    ∃ n2339 : Int,
    ∃ n2340 : Int,
    ∃ n2341 : Int,
    (
     e2326 = Ending.returned (Value.agg #[Value.int IntKind.i64 n2328, Value.int IntKind.i64 n2329, Value.int IntKind.i64 n2330, Value.slice p2331 k2332 k2333, Value.int IntKind.i64 n2334, Value.int IntKind.i64 n2335, Value.int IntKind.i64 n2336, Value.int IntKind.i64 n2337, Value.int IntKind.i64 n2338, Value.int IntKind.i64 n2339, Value.int IntKind.i64 n2340, Value.int IntKind.i64 n2341])) ∧
    (
     Row w2327 { block := b15, off := (0 : Nat) } (0 : Nat) [Value.int IntKind.i64 n63, Value.int IntKind.i64 n64, Value.int IntKind.i64 n65, Value.slice p66 k67 k68, Value.int IntKind.i64 n69, Value.int IntKind.i64 n70, Value.int IntKind.i64 n71, Value.int IntKind.i64 n72, Value.int IntKind.i64 n73, Value.int IntKind.i64 n74, Value.int IntKind.i64 n75, Value.int IntKind.i64 n76]) ∧
    (
     Ca Try.prog (14 : Nat) #[Value.agg #[Value.int IntKind.i64 n63, Value.int IntKind.i64 n64, Value.int IntKind.i64 n65, Value.slice p66 k67 k68, Value.int IntKind.i64 n69, Value.int IntKind.i64 n70, Value.int IntKind.i64 n71, Value.int IntKind.i64 n72, Value.int IntKind.i64 n73, Value.int IntKind.i64 n74, Value.int IntKind.i64 n75, Value.int IntKind.i64 n76]] w2327 fun e2342 w2343 =>
     ∃ n2344 : Int,
     ∃ n2345 : Int,
     ∃ n2346 : Int,
     ∃ p2347 : Option Addr,
     ∃ k2348 : Nat,
     ∃ k2349 : Nat,
     ∃ n2350 : Int,
     ∃ n2351 : Int,
     ∃ n2352 : Int,
     ∃ n2353 : Int,
     ∃ n2354 : Int,
     ∃ n2355 : Int,
     ∃ n2356 : Int,
     ∃ n2357 : Int,
     (
      e2342 = Ending.returned (Value.agg #[Value.int IntKind.i64 n2344, Value.int IntKind.i64 n2345, Value.int IntKind.i64 n2346, Value.slice p2347 k2348 k2349, Value.int IntKind.i64 n2350, Value.int IntKind.i64 n2351, Value.int IntKind.i64 n2352, Value.int IntKind.i64 n2353, Value.int IntKind.i64 n2354, Value.int IntKind.i64 n2355, Value.int IntKind.i64 n2356, Value.int IntKind.i64 n2357])) ∧
     LetA (Obj.cells #[Value.int IntKind.i64 (0 : Int), Value.int IntKind.i64 (0 : Int), Value.int IntKind.i64 (0 : Int), Value.slice none (0 : Nat) (0 : Nat), Value.int IntKind.i64 (0 : Int), Value.int IntKind.i64 (0 : Int), Value.int IntKind.i64 (0 : Int), Value.int IntKind.i64 (0 : Int), Value.int IntKind.i64 (0 : Int), Value.int IntKind.i64 (0 : Int), Value.int IntKind.i64 (0 : Int), Value.int IntKind.i64 (0 : Int)] (24 : Nat)) w2343 fun b2358 w2359 =>
     (
      WrRow w2359 { block := b2358, off := (0 : Nat) } (0 : Nat) [Value.int IntKind.i64 n2328, Value.int IntKind.i64 n2329, Value.int IntKind.i64 n2330, Value.slice p2331 k2332 k2333, Value.int IntKind.i64 n2334, Value.int IntKind.i64 n2335, Value.int IntKind.i64 n2336, Value.int IntKind.i64 n2337, Value.int IntKind.i64 n2338, Value.int IntKind.i64 n2339, Value.int IntKind.i64 n2340, Value.int IntKind.i64 n2341]) ∧
     LetW (setRow w2359 { block := b2358, off := (0 : Nat) } (0 : Nat) [Value.int IntKind.i64 n2328, Value.int IntKind.i64 n2329, Value.int IntKind.i64 n2330, Value.slice p2331 k2332 k2333, Value.int IntKind.i64 n2334, Value.int IntKind.i64 n2335, Value.int IntKind.i64 n2336, Value.int IntKind.i64 n2337, Value.int IntKind.i64 n2338, Value.int IntKind.i64 n2339, Value.int IntKind.i64 n2340, Value.int IntKind.i64 n2341]) fun w2360 =>
     (
      WrRow w2360 { block := b2324, off := (0 : Nat) } (0 : Nat) [Value.int IntKind.i64 n2344, Value.int IntKind.i64 n2345, Value.int IntKind.i64 n2346, Value.slice p2347 k2348 k2349, Value.int IntKind.i64 n2350, Value.int IntKind.i64 n2351, Value.int IntKind.i64 n2352, Value.int IntKind.i64 n2353, Value.int IntKind.i64 n2354, Value.int IntKind.i64 n2355, Value.int IntKind.i64 n2356, Value.int IntKind.i64 n2357]) ∧
     LetW (setRow w2360 { block := b2324, off := (0 : Nat) } (0 : Nat) [Value.int IntKind.i64 n2344, Value.int IntKind.i64 n2345, Value.int IntKind.i64 n2346, Value.slice p2347 k2348 k2349, Value.int IntKind.i64 n2350, Value.int IntKind.i64 n2351, Value.int IntKind.i64 n2352, Value.int IntKind.i64 n2353, Value.int IntKind.i64 n2354, Value.int IntKind.i64 n2355, Value.int IntKind.i64 n2356, Value.int IntKind.i64 n2357]) fun w2361 =>
     ∃ n2362 : Int,
     ∃ n2363 : Int,
     ∃ n2364 : Int,
     ∃ p2365 : Option Addr,
     ∃ k2366 : Nat,
     ∃ k2367 : Nat,
     ∃ n2368 : Int,
     ∃ n2369 : Int,
     ∃ n2370 : Int,
     ∃ n2371 : Int,
     ∃ n2372 : Int,
     ∃ n2373 : Int,
     ∃ n2374 : Int,
     ∃ n2375 : Int,
     (
      Row w2361 { block := b2358, off := (0 : Nat) } (0 : Nat) [Value.int IntKind.i64 n2362, Value.int IntKind.i64 n2363, Value.int IntKind.i64 n2364, Value.slice p2365 k2366 k2367, Value.int IntKind.i64 n2368, Value.int IntKind.i64 n2369, Value.int IntKind.i64 n2370, Value.int IntKind.i64 n2371, Value.int IntKind.i64 n2372, Value.int IntKind.i64 n2373, Value.int IntKind.i64 n2374, Value.int IntKind.i64 n2375]) ∧
     ∃ n2376 : Int,
     ∃ n2377 : Int,
     ∃ n2378 : Int,
     ∃ p2379 : Option Addr,
     ∃ k2380 : Nat,
     ∃ k2381 : Nat,
     ∃ n2382 : Int,
     ∃ n2383 : Int,
     ∃ n2384 : Int,
     ∃ n2385 : Int,
     ∃ n2386 : Int,
     ∃ n2387 : Int,
     ∃ n2388 : Int,
     ∃ n2389 : Int,
     (
      Row w2361 { block := b2324, off := (0 : Nat) } (0 : Nat) [Value.int IntKind.i64 n2376, Value.int IntKind.i64 n2377, Value.int IntKind.i64 n2378, Value.slice p2379 k2380 k2381, Value.int IntKind.i64 n2382, Value.int IntKind.i64 n2383, Value.int IntKind.i64 n2384, Value.int IntKind.i64 n2385, Value.int IntKind.i64 n2386, Value.int IntKind.i64 n2387, Value.int IntKind.i64 n2388, Value.int IntKind.i64 n2389]) ∧
     Ca Try.prog (15 : Nat) #[Value.agg #[Value.int IntKind.i64 n2362, Value.int IntKind.i64 n2363, Value.int IntKind.i64 n2364, Value.slice p2365 k2366 k2367, Value.int IntKind.i64 n2368, Value.int IntKind.i64 n2369, Value.int IntKind.i64 n2370, Value.int IntKind.i64 n2371, Value.int IntKind.i64 n2372, Value.int IntKind.i64 n2373, Value.int IntKind.i64 n2374, Value.int IntKind.i64 n2375], Value.agg #[Value.int IntKind.i64 n2376, Value.int IntKind.i64 n2377, Value.int IntKind.i64 n2378, Value.slice p2379 k2380 k2381, Value.int IntKind.i64 n2382, Value.int IntKind.i64 n2383, Value.int IntKind.i64 n2384, Value.int IntKind.i64 n2385, Value.int IntKind.i64 n2386, Value.int IntKind.i64 n2387, Value.int IntKind.i64 n2388, Value.int IntKind.i64 n2389]] w2361 fun e2390 w2391 =>
     ∃ b2392 : Bool,
     (
      e2390 = Ending.returned (Value.bool b2392)) ∧
     Br (!b2392)
      (
       R (Ending.returned (Value.bool false)) w2391)
      (
       ∃ n2393 : Int,
       ∃ n2394 : Int,
       ∃ n2395 : Int,
       ∃ p2396 : Option Addr,
       ∃ k2397 : Nat,
       ∃ k2398 : Nat,
       ∃ n2399 : Int,
       ∃ n2400 : Int,
       ∃ n2401 : Int,
       ∃ n2402 : Int,
       ∃ n2403 : Int,
       ∃ n2404 : Int,
       ∃ n2405 : Int,
       ∃ n2406 : Int,
       (
        Row w2391 { block := b37, off := (0 : Nat) } (0 : Nat) [Value.int IntKind.i64 n2393, Value.int IntKind.i64 n2394, Value.int IntKind.i64 n2395, Value.slice p2396 k2397 k2398, Value.int IntKind.i64 n2399, Value.int IntKind.i64 n2400, Value.int IntKind.i64 n2401, Value.int IntKind.i64 n2402, Value.int IntKind.i64 n2403, Value.int IntKind.i64 n2404, Value.int IntKind.i64 n2405, Value.int IntKind.i64 n2406]) ∧
       ∃ n2407 : Int,
       ∃ n2408 : Int,
       ∃ n2409 : Int,
       ∃ p2410 : Option Addr,
       ∃ k2411 : Nat,
       ∃ k2412 : Nat,
       ∃ n2413 : Int,
       ∃ n2414 : Int,
       ∃ n2415 : Int,
       ∃ n2416 : Int,
       ∃ n2417 : Int,
       ∃ n2418 : Int,
       ∃ n2419 : Int,
       ∃ n2420 : Int,
       (
        Row w2391 { block := b15, off := (0 : Nat) } (0 : Nat) [Value.int IntKind.i64 n2407, Value.int IntKind.i64 n2408, Value.int IntKind.i64 n2409, Value.slice p2410 k2411 k2412, Value.int IntKind.i64 n2413, Value.int IntKind.i64 n2414, Value.int IntKind.i64 n2415, Value.int IntKind.i64 n2416, Value.int IntKind.i64 n2417, Value.int IntKind.i64 n2418, Value.int IntKind.i64 n2419, Value.int IntKind.i64 n2420]) ∧
       Ca Try.prog (15 : Nat) #[Value.agg #[Value.int IntKind.i64 n2393, Value.int IntKind.i64 n2394, Value.int IntKind.i64 n2395, Value.slice p2396 k2397 k2398, Value.int IntKind.i64 n2399, Value.int IntKind.i64 n2400, Value.int IntKind.i64 n2401, Value.int IntKind.i64 n2402, Value.int IntKind.i64 n2403, Value.int IntKind.i64 n2404, Value.int IntKind.i64 n2405, Value.int IntKind.i64 n2406], Value.agg #[Value.int IntKind.i64 n2407, Value.int IntKind.i64 n2408, Value.int IntKind.i64 n2409, Value.slice p2410 k2411 k2412, Value.int IntKind.i64 n2413, Value.int IntKind.i64 n2414, Value.int IntKind.i64 n2415, Value.int IntKind.i64 n2416, Value.int IntKind.i64 n2417, Value.int IntKind.i64 n2418, Value.int IntKind.i64 n2419, Value.int IntKind.i64 n2420]] w2391 fun e2421 w2422 =>
       ∃ b2423 : Bool,
       (
        e2421 = Ending.returned (Value.bool b2423)) ∧
       Br (!b2423)
        (
         R (Ending.returned (Value.bool false)) w2422)
        (
         ∃ n2424 : Int,
         ∃ n2425 : Int,
         ∃ n2426 : Int,
         ∃ p2427 : Option Addr,
         ∃ k2428 : Nat,
         ∃ k2429 : Nat,
         ∃ n2430 : Int,
         ∃ n2431 : Int,
         ∃ n2432 : Int,
         ∃ n2433 : Int,
         ∃ n2434 : Int,
         ∃ n2435 : Int,
         ∃ n2436 : Int,
         ∃ n2437 : Int,
         (
          Row w2422 { block := b37, off := (0 : Nat) } (0 : Nat) [Value.int IntKind.i64 n2424, Value.int IntKind.i64 n2425, Value.int IntKind.i64 n2426, Value.slice p2427 k2428 k2429, Value.int IntKind.i64 n2430, Value.int IntKind.i64 n2431, Value.int IntKind.i64 n2432, Value.int IntKind.i64 n2433, Value.int IntKind.i64 n2434, Value.int IntKind.i64 n2435, Value.int IntKind.i64 n2436, Value.int IntKind.i64 n2437]) ∧
         ∃ n2438 : Int,
         ∃ n2439 : Int,
         ∃ n2440 : Int,
         ∃ p2441 : Option Addr,
         ∃ k2442 : Nat,
         ∃ k2443 : Nat,
         ∃ n2444 : Int,
         ∃ n2445 : Int,
         ∃ n2446 : Int,
         ∃ n2447 : Int,
         ∃ n2448 : Int,
         ∃ n2449 : Int,
         ∃ n2450 : Int,
         ∃ n2451 : Int,
         (
          Row w2422 { block := b15, off := (0 : Nat) } (0 : Nat) [Value.int IntKind.i64 n2438, Value.int IntKind.i64 n2439, Value.int IntKind.i64 n2440, Value.slice p2441 k2442 k2443, Value.int IntKind.i64 n2444, Value.int IntKind.i64 n2445, Value.int IntKind.i64 n2446, Value.int IntKind.i64 n2447, Value.int IntKind.i64 n2448, Value.int IntKind.i64 n2449, Value.int IntKind.i64 n2450, Value.int IntKind.i64 n2451]) ∧
         Ca Try.prog (16 : Nat) #[Value.agg #[Value.int IntKind.i64 n2424, Value.int IntKind.i64 n2425, Value.int IntKind.i64 n2426, Value.slice p2427 k2428 k2429, Value.int IntKind.i64 n2430, Value.int IntKind.i64 n2431, Value.int IntKind.i64 n2432, Value.int IntKind.i64 n2433, Value.int IntKind.i64 n2434, Value.int IntKind.i64 n2435, Value.int IntKind.i64 n2436, Value.int IntKind.i64 n2437]] w2422 fun e2452 w2453 =>
         ∃ n2454 : Int,
         (
          e2452 = Ending.returned (Value.int IntKind.i64 n2454)) ∧
         (
          Row w2453 { block := b15, off := (0 : Nat) } (0 : Nat) [Value.int IntKind.i64 n2438, Value.int IntKind.i64 n2439, Value.int IntKind.i64 n2440, Value.slice p2441 k2442 k2443, Value.int IntKind.i64 n2444, Value.int IntKind.i64 n2445, Value.int IntKind.i64 n2446, Value.int IntKind.i64 n2447, Value.int IntKind.i64 n2448, Value.int IntKind.i64 n2449, Value.int IntKind.i64 n2450, Value.int IntKind.i64 n2451]) ∧
         Ca Try.prog (17 : Nat) #[Value.agg #[Value.int IntKind.i64 n2438, Value.int IntKind.i64 n2439, Value.int IntKind.i64 n2440, Value.slice p2441 k2442 k2443, Value.int IntKind.i64 n2444, Value.int IntKind.i64 n2445, Value.int IntKind.i64 n2446, Value.int IntKind.i64 n2447, Value.int IntKind.i64 n2448, Value.int IntKind.i64 n2449, Value.int IntKind.i64 n2450, Value.int IntKind.i64 n2451]] w2453 fun e2455 w2456 =>
         ∃ n2457 : Int,
         (
          e2455 = Ending.returned (Value.int IntKind.i64 n2457)) ∧
         Br (n2454 != n2457)
          (
           R (Ending.returned (Value.bool false)) w2456)
          (
           ∃ n2458 : Int,
           ∃ n2459 : Int,
           ∃ n2460 : Int,
           ∃ p2461 : Option Addr,
           ∃ k2462 : Nat,
           ∃ k2463 : Nat,
           ∃ n2464 : Int,
           ∃ n2465 : Int,
           ∃ n2466 : Int,
           ∃ n2467 : Int,
           ∃ n2468 : Int,
           ∃ n2469 : Int,
           ∃ n2470 : Int,
           ∃ n2471 : Int,
           (
            Row w2456 { block := b37, off := (0 : Nat) } (0 : Nat) [Value.int IntKind.i64 n2458, Value.int IntKind.i64 n2459, Value.int IntKind.i64 n2460, Value.slice p2461 k2462 k2463, Value.int IntKind.i64 n2464, Value.int IntKind.i64 n2465, Value.int IntKind.i64 n2466, Value.int IntKind.i64 n2467, Value.int IntKind.i64 n2468, Value.int IntKind.i64 n2469, Value.int IntKind.i64 n2470, Value.int IntKind.i64 n2471]) ∧
           Ca Try.prog (18 : Nat) #[Value.agg #[Value.int IntKind.i64 n2458, Value.int IntKind.i64 n2459, Value.int IntKind.i64 n2460, Value.slice p2461 k2462 k2463, Value.int IntKind.i64 n2464, Value.int IntKind.i64 n2465, Value.int IntKind.i64 n2466, Value.int IntKind.i64 n2467, Value.int IntKind.i64 n2468, Value.int IntKind.i64 n2469, Value.int IntKind.i64 n2470, Value.int IntKind.i64 n2471]] w2456 fun e2472 w2473 =>
           ∃ n2474 : Int,
           ∃ p2475 : Option Addr,
           ∃ k2476 : Nat,
           ∃ k2477 : Nat,
           ∃ n2478 : Int,
           ∃ n2479 : Int,
           (
            e2472 = Ending.returned (Value.tuple #[Value.agg #[Value.int IntKind.i64 n2474, Value.slice p2475 k2476 k2477, Value.int IntKind.i64 n2478], Value.int IntKind.i64 n2479])) ∧
           LetA (Obj.cells #[Value.int IntKind.i64 (0 : Int), Value.slice none (0 : Nat) (0 : Nat), Value.int IntKind.i64 (0 : Int)] (32 : Nat)) w2473 fun b2480 w2481 =>
           (
            WrRow w2481 { block := b2480, off := (0 : Nat) } (0 : Nat) [Value.int IntKind.i64 n2474, Value.slice p2475 k2476 k2477, Value.int IntKind.i64 n2478]) ∧
           LetW (setRow w2481 { block := b2480, off := (0 : Nat) } (0 : Nat) [Value.int IntKind.i64 n2474, Value.slice p2475 k2476 k2477, Value.int IntKind.i64 n2478]) fun w2482 =>
           ∃ n2483 : Int,
           ∃ n2484 : Int,
           ∃ n2485 : Int,
           ∃ p2486 : Option Addr,
           ∃ k2487 : Nat,
           ∃ k2488 : Nat,
           ∃ n2489 : Int,
           ∃ n2490 : Int,
           ∃ n2491 : Int,
           ∃ n2492 : Int,
           ∃ n2493 : Int,
           ∃ n2494 : Int,
           ∃ n2495 : Int,
           ∃ n2496 : Int,
           (
            Row w2482 { block := b15, off := (0 : Nat) } (0 : Nat) [Value.int IntKind.i64 n2483, Value.int IntKind.i64 n2484, Value.int IntKind.i64 n2485, Value.slice p2486 k2487 k2488, Value.int IntKind.i64 n2489, Value.int IntKind.i64 n2490, Value.int IntKind.i64 n2491, Value.int IntKind.i64 n2492, Value.int IntKind.i64 n2493, Value.int IntKind.i64 n2494, Value.int IntKind.i64 n2495, Value.int IntKind.i64 n2496]) ∧
           Ca Try.prog (19 : Nat) #[Value.agg #[Value.int IntKind.i64 n2483, Value.int IntKind.i64 n2484, Value.int IntKind.i64 n2485, Value.slice p2486 k2487 k2488, Value.int IntKind.i64 n2489, Value.int IntKind.i64 n2490, Value.int IntKind.i64 n2491, Value.int IntKind.i64 n2492, Value.int IntKind.i64 n2493, Value.int IntKind.i64 n2494, Value.int IntKind.i64 n2495, Value.int IntKind.i64 n2496]] w2482 fun e2497 w2498 =>
           ∃ n2499 : Int,
           ∃ p2500 : Option Addr,
           ∃ k2501 : Nat,
           ∃ k2502 : Nat,
           ∃ n2503 : Int,
           ∃ n2504 : Int,
           (
            e2497 = Ending.returned (Value.tuple #[Value.agg #[Value.int IntKind.i64 n2499, Value.slice p2500 k2501 k2502, Value.int IntKind.i64 n2503], Value.int IntKind.i64 n2504])) ∧
           LetA (Obj.cells #[Value.int IntKind.i64 (0 : Int), Value.slice none (0 : Nat) (0 : Nat), Value.int IntKind.i64 (0 : Int)] (32 : Nat)) w2498 fun b2505 w2506 =>
           (
            WrRow w2506 { block := b2505, off := (0 : Nat) } (0 : Nat) [Value.int IntKind.i64 n2499, Value.slice p2500 k2501 k2502, Value.int IntKind.i64 n2503]) ∧
           LetW (setRow w2506 { block := b2505, off := (0 : Nat) } (0 : Nat) [Value.int IntKind.i64 n2499, Value.slice p2500 k2501 k2502, Value.int IntKind.i64 n2503]) fun w2507 =>
           ∃ n2508 : Int,
           ∃ n2509 : Int,
           ∃ n2510 : Int,
           ∃ p2511 : Option Addr,
           ∃ k2512 : Nat,
           ∃ k2513 : Nat,
           ∃ n2514 : Int,
           ∃ n2515 : Int,
           ∃ n2516 : Int,
           ∃ n2517 : Int,
           ∃ n2518 : Int,
           ∃ n2519 : Int,
           ∃ n2520 : Int,
           ∃ n2521 : Int,
           (
            Row w2507 { block := b2358, off := (0 : Nat) } (0 : Nat) [Value.int IntKind.i64 n2508, Value.int IntKind.i64 n2509, Value.int IntKind.i64 n2510, Value.slice p2511 k2512 k2513, Value.int IntKind.i64 n2514, Value.int IntKind.i64 n2515, Value.int IntKind.i64 n2516, Value.int IntKind.i64 n2517, Value.int IntKind.i64 n2518, Value.int IntKind.i64 n2519, Value.int IntKind.i64 n2520, Value.int IntKind.i64 n2521]) ∧
           Ca Try.prog (18 : Nat) #[Value.agg #[Value.int IntKind.i64 n2508, Value.int IntKind.i64 n2509, Value.int IntKind.i64 n2510, Value.slice p2511 k2512 k2513, Value.int IntKind.i64 n2514, Value.int IntKind.i64 n2515, Value.int IntKind.i64 n2516, Value.int IntKind.i64 n2517, Value.int IntKind.i64 n2518, Value.int IntKind.i64 n2519, Value.int IntKind.i64 n2520, Value.int IntKind.i64 n2521]] w2507 fun e2522 w2523 =>
           ∃ n2524 : Int,
           ∃ p2525 : Option Addr,
           ∃ k2526 : Nat,
           ∃ k2527 : Nat,
           ∃ n2528 : Int,
           ∃ n2529 : Int,
           (
            e2522 = Ending.returned (Value.tuple #[Value.agg #[Value.int IntKind.i64 n2524, Value.slice p2525 k2526 k2527, Value.int IntKind.i64 n2528], Value.int IntKind.i64 n2529])) ∧
           LetA (Obj.cells #[Value.int IntKind.i64 (0 : Int), Value.slice none (0 : Nat) (0 : Nat), Value.int IntKind.i64 (0 : Int)] (32 : Nat)) w2523 fun b2530 w2531 =>
           (
            WrRow w2531 { block := b2530, off := (0 : Nat) } (0 : Nat) [Value.int IntKind.i64 n2524, Value.slice p2525 k2526 k2527, Value.int IntKind.i64 n2528]) ∧
           LetW (setRow w2531 { block := b2530, off := (0 : Nat) } (0 : Nat) [Value.int IntKind.i64 n2524, Value.slice p2525 k2526 k2527, Value.int IntKind.i64 n2528]) fun w2532 =>
           ∃ n2533 : Int,
           ∃ n2534 : Int,
           ∃ n2535 : Int,
           ∃ p2536 : Option Addr,
           ∃ k2537 : Nat,
           ∃ k2538 : Nat,
           ∃ n2539 : Int,
           ∃ n2540 : Int,
           ∃ n2541 : Int,
           ∃ n2542 : Int,
           ∃ n2543 : Int,
           ∃ n2544 : Int,
           ∃ n2545 : Int,
           ∃ n2546 : Int,
           (
            Row w2532 { block := b2324, off := (0 : Nat) } (0 : Nat) [Value.int IntKind.i64 n2533, Value.int IntKind.i64 n2534, Value.int IntKind.i64 n2535, Value.slice p2536 k2537 k2538, Value.int IntKind.i64 n2539, Value.int IntKind.i64 n2540, Value.int IntKind.i64 n2541, Value.int IntKind.i64 n2542, Value.int IntKind.i64 n2543, Value.int IntKind.i64 n2544, Value.int IntKind.i64 n2545, Value.int IntKind.i64 n2546]) ∧
           Ca Try.prog (19 : Nat) #[Value.agg #[Value.int IntKind.i64 n2533, Value.int IntKind.i64 n2534, Value.int IntKind.i64 n2535, Value.slice p2536 k2537 k2538, Value.int IntKind.i64 n2539, Value.int IntKind.i64 n2540, Value.int IntKind.i64 n2541, Value.int IntKind.i64 n2542, Value.int IntKind.i64 n2543, Value.int IntKind.i64 n2544, Value.int IntKind.i64 n2545, Value.int IntKind.i64 n2546]] w2532 fun e2547 w2548 =>
           ∃ n2549 : Int,
           ∃ p2550 : Option Addr,
           ∃ k2551 : Nat,
           ∃ k2552 : Nat,
           ∃ n2553 : Int,
           ∃ n2554 : Int,
           (
            e2547 = Ending.returned (Value.tuple #[Value.agg #[Value.int IntKind.i64 n2549, Value.slice p2550 k2551 k2552, Value.int IntKind.i64 n2553], Value.int IntKind.i64 n2554])) ∧
           LetA (Obj.cells #[Value.int IntKind.i64 (0 : Int), Value.slice none (0 : Nat) (0 : Nat), Value.int IntKind.i64 (0 : Int)] (32 : Nat)) w2548 fun b2555 w2556 =>
           (
            WrRow w2556 { block := b2555, off := (0 : Nat) } (0 : Nat) [Value.int IntKind.i64 n2549, Value.slice p2550 k2551 k2552, Value.int IntKind.i64 n2553]) ∧
           LetW (setRow w2556 { block := b2555, off := (0 : Nat) } (0 : Nat) [Value.int IntKind.i64 n2549, Value.slice p2550 k2551 k2552, Value.int IntKind.i64 n2553]) fun w2557 =>
           ∃ n2558 : Int,
           ∃ p2559 : Option Addr,
           ∃ k2560 : Nat,
           ∃ k2561 : Nat,
           ∃ n2562 : Int,
           (
            Row w2557 { block := b2480, off := (0 : Nat) } (0 : Nat) [Value.int IntKind.i64 n2558, Value.slice p2559 k2560 k2561, Value.int IntKind.i64 n2562]) ∧
           ∃ n2563 : Int,
           ∃ p2564 : Option Addr,
           ∃ k2565 : Nat,
           ∃ k2566 : Nat,
           ∃ n2567 : Int,
           (
            Row w2557 { block := b2505, off := (0 : Nat) } (0 : Nat) [Value.int IntKind.i64 n2563, Value.slice p2564 k2565 k2566, Value.int IntKind.i64 n2567]) ∧
           Ca Try.prog (20 : Nat) #[Value.agg #[Value.int IntKind.i64 n2558, Value.slice p2559 k2560 k2561, Value.int IntKind.i64 n2562], Value.agg #[Value.int IntKind.i64 n2563, Value.slice p2564 k2565 k2566, Value.int IntKind.i64 n2567]] w2557 fun e2568 w2569 =>
           ∃ b2570 : Bool,
           (
            e2568 = Ending.returned (Value.bool b2570)) ∧
           Br (b2570)
            (
             Br (n2479 == n2504)
              (
               ∃ n2571 : Int,
               ∃ p2572 : Option Addr,
               ∃ k2573 : Nat,
               ∃ k2574 : Nat,
               ∃ n2575 : Int,
               (
                Row w2569 { block := b2530, off := (0 : Nat) } (0 : Nat) [Value.int IntKind.i64 n2571, Value.slice p2572 k2573 k2574, Value.int IntKind.i64 n2575]) ∧
               ∃ n2576 : Int,
               ∃ p2577 : Option Addr,
               ∃ k2578 : Nat,
               ∃ k2579 : Nat,
               ∃ n2580 : Int,
               (
                Row w2569 { block := b2555, off := (0 : Nat) } (0 : Nat) [Value.int IntKind.i64 n2576, Value.slice p2577 k2578 k2579, Value.int IntKind.i64 n2580]) ∧
               Ca Try.prog (20 : Nat) #[Value.agg #[Value.int IntKind.i64 n2571, Value.slice p2572 k2573 k2574, Value.int IntKind.i64 n2575], Value.agg #[Value.int IntKind.i64 n2576, Value.slice p2577 k2578 k2579, Value.int IntKind.i64 n2580]] w2569 fun e2581 w2582 =>
               ∃ b2583 : Bool,
               (
                e2581 = Ending.returned (Value.bool b2583)) ∧
               Br (b2583)
                (
                 Br (n2529 == n2554)
                  (
                   Ca Try.prog (12 : Nat) #[] w2582 fun e2584 w2585 =>
                   ∃ b2586 : Bool,
                   (
                    e2584 = Ending.returned (Value.bool b2586)) ∧
                   R (Ending.returned (Value.bool b2586)) w2585)
                  (
                   R (Ending.returned (Value.bool false)) w2582))
                (
                 R (Ending.returned (Value.bool false)) w2582))
              (
               R (Ending.returned (Value.bool false)) w2569))
            (
             R (Ending.returned (Value.bool false)) w2569))))) ∧
    LetA (Obj.cells #[Value.int IntKind.i64 (0 : Int), Value.int IntKind.i64 (0 : Int), Value.int IntKind.i64 (0 : Int), Value.slice none (0 : Nat) (0 : Nat), Value.int IntKind.i64 (0 : Int), Value.int IntKind.i64 (0 : Int), Value.int IntKind.i64 (0 : Int), Value.int IntKind.i64 (0 : Int), Value.int IntKind.i64 (0 : Int), Value.int IntKind.i64 (0 : Int), Value.int IntKind.i64 (0 : Int), Value.int IntKind.i64 (0 : Int)] (24 : Nat)) w2327 fun b2587 w2588 =>
    (
     Row w2588 { block := b15, off := (0 : Nat) } (0 : Nat) [Value.int IntKind.i64 n63, Value.int IntKind.i64 n64, Value.int IntKind.i64 n65, Value.slice p66 k67 k68, Value.int IntKind.i64 n69, Value.int IntKind.i64 n70, Value.int IntKind.i64 n71, Value.int IntKind.i64 n72, Value.int IntKind.i64 n73, Value.int IntKind.i64 n74, Value.int IntKind.i64 n75, Value.int IntKind.i64 n76]) ∧
    Ca Try.prog (14 : Nat) #[Value.agg #[Value.int IntKind.i64 n63, Value.int IntKind.i64 n64, Value.int IntKind.i64 n65, Value.slice p66 k67 k68, Value.int IntKind.i64 n69, Value.int IntKind.i64 n70, Value.int IntKind.i64 n71, Value.int IntKind.i64 n72, Value.int IntKind.i64 n73, Value.int IntKind.i64 n74, Value.int IntKind.i64 n75, Value.int IntKind.i64 n76]] w2588 fun e2589 w2590 =>
    ∃ n2591 : Int,
    ∃ n2592 : Int,
    ∃ n2593 : Int,
    ∃ p2594 : Option Addr,
    ∃ k2595 : Nat,
    ∃ k2596 : Nat,
    ∃ n2597 : Int,
    ∃ n2598 : Int,
    ∃ n2599 : Int,
    ∃ n2600 : Int,
    ∃ n2601 : Int,
    ∃ n2602 : Int,
    ∃ n2603 : Int,
    ∃ n2604 : Int,
    (
     e2589 = Ending.returned (Value.agg #[Value.int IntKind.i64 n2591, Value.int IntKind.i64 n2592, Value.int IntKind.i64 n2593, Value.slice p2594 k2595 k2596, Value.int IntKind.i64 n2597, Value.int IntKind.i64 n2598, Value.int IntKind.i64 n2599, Value.int IntKind.i64 n2600, Value.int IntKind.i64 n2601, Value.int IntKind.i64 n2602, Value.int IntKind.i64 n2603, Value.int IntKind.i64 n2604])) ∧
    (
     WrRow w2590 { block := b2587, off := (0 : Nat) } (0 : Nat) [Value.int IntKind.i64 n2328, Value.int IntKind.i64 n2329, Value.int IntKind.i64 n2330, Value.slice p2331 k2332 k2333, Value.int IntKind.i64 n2334, Value.int IntKind.i64 n2335, Value.int IntKind.i64 n2336, Value.int IntKind.i64 n2337, Value.int IntKind.i64 n2338, Value.int IntKind.i64 n2339, Value.int IntKind.i64 n2340, Value.int IntKind.i64 n2341]) ∧
    LetW (setRow w2590 { block := b2587, off := (0 : Nat) } (0 : Nat) [Value.int IntKind.i64 n2328, Value.int IntKind.i64 n2329, Value.int IntKind.i64 n2330, Value.slice p2331 k2332 k2333, Value.int IntKind.i64 n2334, Value.int IntKind.i64 n2335, Value.int IntKind.i64 n2336, Value.int IntKind.i64 n2337, Value.int IntKind.i64 n2338, Value.int IntKind.i64 n2339, Value.int IntKind.i64 n2340, Value.int IntKind.i64 n2341]) fun w2605 =>
    (
     WrRow w2605 { block := b2324, off := (0 : Nat) } (0 : Nat) [Value.int IntKind.i64 n2591, Value.int IntKind.i64 n2592, Value.int IntKind.i64 n2593, Value.slice p2594 k2595 k2596, Value.int IntKind.i64 n2597, Value.int IntKind.i64 n2598, Value.int IntKind.i64 n2599, Value.int IntKind.i64 n2600, Value.int IntKind.i64 n2601, Value.int IntKind.i64 n2602, Value.int IntKind.i64 n2603, Value.int IntKind.i64 n2604]) ∧
    LetW (setRow w2605 { block := b2324, off := (0 : Nat) } (0 : Nat) [Value.int IntKind.i64 n2591, Value.int IntKind.i64 n2592, Value.int IntKind.i64 n2593, Value.slice p2594 k2595 k2596, Value.int IntKind.i64 n2597, Value.int IntKind.i64 n2598, Value.int IntKind.i64 n2599, Value.int IntKind.i64 n2600, Value.int IntKind.i64 n2601, Value.int IntKind.i64 n2602, Value.int IntKind.i64 n2603, Value.int IntKind.i64 n2604]) fun w2606 =>
    ∃ n2607 : Int,
    ∃ n2608 : Int,
    ∃ n2609 : Int,
    ∃ p2610 : Option Addr,
    ∃ k2611 : Nat,
    ∃ k2612 : Nat,
    ∃ n2613 : Int,
    ∃ n2614 : Int,
    ∃ n2615 : Int,
    ∃ n2616 : Int,
    ∃ n2617 : Int,
    ∃ n2618 : Int,
    ∃ n2619 : Int,
    ∃ n2620 : Int,
    (
     Row w2606 { block := b2587, off := (0 : Nat) } (0 : Nat) [Value.int IntKind.i64 n2607, Value.int IntKind.i64 n2608, Value.int IntKind.i64 n2609, Value.slice p2610 k2611 k2612, Value.int IntKind.i64 n2613, Value.int IntKind.i64 n2614, Value.int IntKind.i64 n2615, Value.int IntKind.i64 n2616, Value.int IntKind.i64 n2617, Value.int IntKind.i64 n2618, Value.int IntKind.i64 n2619, Value.int IntKind.i64 n2620]) ∧
    ∃ n2621 : Int,
    ∃ n2622 : Int,
    ∃ n2623 : Int,
    ∃ p2624 : Option Addr,
    ∃ k2625 : Nat,
    ∃ k2626 : Nat,
    ∃ n2627 : Int,
    ∃ n2628 : Int,
    ∃ n2629 : Int,
    ∃ n2630 : Int,
    ∃ n2631 : Int,
    ∃ n2632 : Int,
    ∃ n2633 : Int,
    ∃ n2634 : Int,
    (
     Row w2606 { block := b2324, off := (0 : Nat) } (0 : Nat) [Value.int IntKind.i64 n2621, Value.int IntKind.i64 n2622, Value.int IntKind.i64 n2623, Value.slice p2624 k2625 k2626, Value.int IntKind.i64 n2627, Value.int IntKind.i64 n2628, Value.int IntKind.i64 n2629, Value.int IntKind.i64 n2630, Value.int IntKind.i64 n2631, Value.int IntKind.i64 n2632, Value.int IntKind.i64 n2633, Value.int IntKind.i64 n2634]) ∧
    Ca Try.prog (15 : Nat) #[Value.agg #[Value.int IntKind.i64 n2607, Value.int IntKind.i64 n2608, Value.int IntKind.i64 n2609, Value.slice p2610 k2611 k2612, Value.int IntKind.i64 n2613, Value.int IntKind.i64 n2614, Value.int IntKind.i64 n2615, Value.int IntKind.i64 n2616, Value.int IntKind.i64 n2617, Value.int IntKind.i64 n2618, Value.int IntKind.i64 n2619, Value.int IntKind.i64 n2620], Value.agg #[Value.int IntKind.i64 n2621, Value.int IntKind.i64 n2622, Value.int IntKind.i64 n2623, Value.slice p2624 k2625 k2626, Value.int IntKind.i64 n2627, Value.int IntKind.i64 n2628, Value.int IntKind.i64 n2629, Value.int IntKind.i64 n2630, Value.int IntKind.i64 n2631, Value.int IntKind.i64 n2632, Value.int IntKind.i64 n2633, Value.int IntKind.i64 n2634]] w2606 fun e2635 w2636 =>
    ∃ b2637 : Bool,
    (
     e2635 = Ending.returned (Value.bool b2637)) ∧
    Br (!b2637)
     (
      R (Ending.returned (Value.bool false)) w2636)
     (
      ∃ n2638 : Int,
      ∃ n2639 : Int,
      ∃ n2640 : Int,
      ∃ p2641 : Option Addr,
      ∃ k2642 : Nat,
      ∃ k2643 : Nat,
      ∃ n2644 : Int,
      ∃ n2645 : Int,
      ∃ n2646 : Int,
      ∃ n2647 : Int,
      ∃ n2648 : Int,
      ∃ n2649 : Int,
      ∃ n2650 : Int,
      ∃ n2651 : Int,
      (
       Row w2636 { block := b37, off := (0 : Nat) } (0 : Nat) [Value.int IntKind.i64 n2638, Value.int IntKind.i64 n2639, Value.int IntKind.i64 n2640, Value.slice p2641 k2642 k2643, Value.int IntKind.i64 n2644, Value.int IntKind.i64 n2645, Value.int IntKind.i64 n2646, Value.int IntKind.i64 n2647, Value.int IntKind.i64 n2648, Value.int IntKind.i64 n2649, Value.int IntKind.i64 n2650, Value.int IntKind.i64 n2651]) ∧
      ∃ n2652 : Int,
      ∃ n2653 : Int,
      ∃ n2654 : Int,
      ∃ p2655 : Option Addr,
      ∃ k2656 : Nat,
      ∃ k2657 : Nat,
      ∃ n2658 : Int,
      ∃ n2659 : Int,
      ∃ n2660 : Int,
      ∃ n2661 : Int,
      ∃ n2662 : Int,
      ∃ n2663 : Int,
      ∃ n2664 : Int,
      ∃ n2665 : Int,
      (
       Row w2636 { block := b15, off := (0 : Nat) } (0 : Nat) [Value.int IntKind.i64 n2652, Value.int IntKind.i64 n2653, Value.int IntKind.i64 n2654, Value.slice p2655 k2656 k2657, Value.int IntKind.i64 n2658, Value.int IntKind.i64 n2659, Value.int IntKind.i64 n2660, Value.int IntKind.i64 n2661, Value.int IntKind.i64 n2662, Value.int IntKind.i64 n2663, Value.int IntKind.i64 n2664, Value.int IntKind.i64 n2665]) ∧
      Ca Try.prog (15 : Nat) #[Value.agg #[Value.int IntKind.i64 n2638, Value.int IntKind.i64 n2639, Value.int IntKind.i64 n2640, Value.slice p2641 k2642 k2643, Value.int IntKind.i64 n2644, Value.int IntKind.i64 n2645, Value.int IntKind.i64 n2646, Value.int IntKind.i64 n2647, Value.int IntKind.i64 n2648, Value.int IntKind.i64 n2649, Value.int IntKind.i64 n2650, Value.int IntKind.i64 n2651], Value.agg #[Value.int IntKind.i64 n2652, Value.int IntKind.i64 n2653, Value.int IntKind.i64 n2654, Value.slice p2655 k2656 k2657, Value.int IntKind.i64 n2658, Value.int IntKind.i64 n2659, Value.int IntKind.i64 n2660, Value.int IntKind.i64 n2661, Value.int IntKind.i64 n2662, Value.int IntKind.i64 n2663, Value.int IntKind.i64 n2664, Value.int IntKind.i64 n2665]] w2636 fun e2666 w2667 =>
      ∃ b2668 : Bool,
      (
       e2666 = Ending.returned (Value.bool b2668)) ∧
      Br (!b2668)
       (
        R (Ending.returned (Value.bool false)) w2667)
       (
        ∃ n2669 : Int,
        ∃ n2670 : Int,
        ∃ n2671 : Int,
        ∃ p2672 : Option Addr,
        ∃ k2673 : Nat,
        ∃ k2674 : Nat,
        ∃ n2675 : Int,
        ∃ n2676 : Int,
        ∃ n2677 : Int,
        ∃ n2678 : Int,
        ∃ n2679 : Int,
        ∃ n2680 : Int,
        ∃ n2681 : Int,
        ∃ n2682 : Int,
        (
         Row w2667 { block := b37, off := (0 : Nat) } (0 : Nat) [Value.int IntKind.i64 n2669, Value.int IntKind.i64 n2670, Value.int IntKind.i64 n2671, Value.slice p2672 k2673 k2674, Value.int IntKind.i64 n2675, Value.int IntKind.i64 n2676, Value.int IntKind.i64 n2677, Value.int IntKind.i64 n2678, Value.int IntKind.i64 n2679, Value.int IntKind.i64 n2680, Value.int IntKind.i64 n2681, Value.int IntKind.i64 n2682]) ∧
        ∃ n2683 : Int,
        ∃ n2684 : Int,
        ∃ n2685 : Int,
        ∃ p2686 : Option Addr,
        ∃ k2687 : Nat,
        ∃ k2688 : Nat,
        ∃ n2689 : Int,
        ∃ n2690 : Int,
        ∃ n2691 : Int,
        ∃ n2692 : Int,
        ∃ n2693 : Int,
        ∃ n2694 : Int,
        ∃ n2695 : Int,
        ∃ n2696 : Int,
        (
         Row w2667 { block := b15, off := (0 : Nat) } (0 : Nat) [Value.int IntKind.i64 n2683, Value.int IntKind.i64 n2684, Value.int IntKind.i64 n2685, Value.slice p2686 k2687 k2688, Value.int IntKind.i64 n2689, Value.int IntKind.i64 n2690, Value.int IntKind.i64 n2691, Value.int IntKind.i64 n2692, Value.int IntKind.i64 n2693, Value.int IntKind.i64 n2694, Value.int IntKind.i64 n2695, Value.int IntKind.i64 n2696]) ∧
        Ca Try.prog (16 : Nat) #[Value.agg #[Value.int IntKind.i64 n2669, Value.int IntKind.i64 n2670, Value.int IntKind.i64 n2671, Value.slice p2672 k2673 k2674, Value.int IntKind.i64 n2675, Value.int IntKind.i64 n2676, Value.int IntKind.i64 n2677, Value.int IntKind.i64 n2678, Value.int IntKind.i64 n2679, Value.int IntKind.i64 n2680, Value.int IntKind.i64 n2681, Value.int IntKind.i64 n2682]] w2667 fun e2697 w2698 =>
        ∃ n2699 : Int,
        (
         e2697 = Ending.returned (Value.int IntKind.i64 n2699)) ∧
        (
         Row w2698 { block := b15, off := (0 : Nat) } (0 : Nat) [Value.int IntKind.i64 n2683, Value.int IntKind.i64 n2684, Value.int IntKind.i64 n2685, Value.slice p2686 k2687 k2688, Value.int IntKind.i64 n2689, Value.int IntKind.i64 n2690, Value.int IntKind.i64 n2691, Value.int IntKind.i64 n2692, Value.int IntKind.i64 n2693, Value.int IntKind.i64 n2694, Value.int IntKind.i64 n2695, Value.int IntKind.i64 n2696]) ∧
        Ca Try.prog (17 : Nat) #[Value.agg #[Value.int IntKind.i64 n2683, Value.int IntKind.i64 n2684, Value.int IntKind.i64 n2685, Value.slice p2686 k2687 k2688, Value.int IntKind.i64 n2689, Value.int IntKind.i64 n2690, Value.int IntKind.i64 n2691, Value.int IntKind.i64 n2692, Value.int IntKind.i64 n2693, Value.int IntKind.i64 n2694, Value.int IntKind.i64 n2695, Value.int IntKind.i64 n2696]] w2698 fun e2700 w2701 =>
        ∃ n2702 : Int,
        (
         e2700 = Ending.returned (Value.int IntKind.i64 n2702)) ∧
        Br (n2699 != n2702)
         (
          R (Ending.returned (Value.bool false)) w2701)
         (
          ∃ n2703 : Int,
          ∃ n2704 : Int,
          ∃ n2705 : Int,
          ∃ p2706 : Option Addr,
          ∃ k2707 : Nat,
          ∃ k2708 : Nat,
          ∃ n2709 : Int,
          ∃ n2710 : Int,
          ∃ n2711 : Int,
          ∃ n2712 : Int,
          ∃ n2713 : Int,
          ∃ n2714 : Int,
          ∃ n2715 : Int,
          ∃ n2716 : Int,
          (
           Row w2701 { block := b37, off := (0 : Nat) } (0 : Nat) [Value.int IntKind.i64 n2703, Value.int IntKind.i64 n2704, Value.int IntKind.i64 n2705, Value.slice p2706 k2707 k2708, Value.int IntKind.i64 n2709, Value.int IntKind.i64 n2710, Value.int IntKind.i64 n2711, Value.int IntKind.i64 n2712, Value.int IntKind.i64 n2713, Value.int IntKind.i64 n2714, Value.int IntKind.i64 n2715, Value.int IntKind.i64 n2716]) ∧
          Ca Try.prog (18 : Nat) #[Value.agg #[Value.int IntKind.i64 n2703, Value.int IntKind.i64 n2704, Value.int IntKind.i64 n2705, Value.slice p2706 k2707 k2708, Value.int IntKind.i64 n2709, Value.int IntKind.i64 n2710, Value.int IntKind.i64 n2711, Value.int IntKind.i64 n2712, Value.int IntKind.i64 n2713, Value.int IntKind.i64 n2714, Value.int IntKind.i64 n2715, Value.int IntKind.i64 n2716]] w2701 fun e2717 w2718 =>
          ∃ n2719 : Int,
          ∃ p2720 : Option Addr,
          ∃ k2721 : Nat,
          ∃ k2722 : Nat,
          ∃ n2723 : Int,
          ∃ n2724 : Int,
          (
           e2717 = Ending.returned (Value.tuple #[Value.agg #[Value.int IntKind.i64 n2719, Value.slice p2720 k2721 k2722, Value.int IntKind.i64 n2723], Value.int IntKind.i64 n2724])) ∧
          LetA (Obj.cells #[Value.int IntKind.i64 (0 : Int), Value.slice none (0 : Nat) (0 : Nat), Value.int IntKind.i64 (0 : Int)] (32 : Nat)) w2718 fun b2725 w2726 =>
          (
           WrRow w2726 { block := b2725, off := (0 : Nat) } (0 : Nat) [Value.int IntKind.i64 n2719, Value.slice p2720 k2721 k2722, Value.int IntKind.i64 n2723]) ∧
          LetW (setRow w2726 { block := b2725, off := (0 : Nat) } (0 : Nat) [Value.int IntKind.i64 n2719, Value.slice p2720 k2721 k2722, Value.int IntKind.i64 n2723]) fun w2727 =>
          ∃ n2728 : Int,
          ∃ n2729 : Int,
          ∃ n2730 : Int,
          ∃ p2731 : Option Addr,
          ∃ k2732 : Nat,
          ∃ k2733 : Nat,
          ∃ n2734 : Int,
          ∃ n2735 : Int,
          ∃ n2736 : Int,
          ∃ n2737 : Int,
          ∃ n2738 : Int,
          ∃ n2739 : Int,
          ∃ n2740 : Int,
          ∃ n2741 : Int,
          (
           Row w2727 { block := b15, off := (0 : Nat) } (0 : Nat) [Value.int IntKind.i64 n2728, Value.int IntKind.i64 n2729, Value.int IntKind.i64 n2730, Value.slice p2731 k2732 k2733, Value.int IntKind.i64 n2734, Value.int IntKind.i64 n2735, Value.int IntKind.i64 n2736, Value.int IntKind.i64 n2737, Value.int IntKind.i64 n2738, Value.int IntKind.i64 n2739, Value.int IntKind.i64 n2740, Value.int IntKind.i64 n2741]) ∧
          Ca Try.prog (19 : Nat) #[Value.agg #[Value.int IntKind.i64 n2728, Value.int IntKind.i64 n2729, Value.int IntKind.i64 n2730, Value.slice p2731 k2732 k2733, Value.int IntKind.i64 n2734, Value.int IntKind.i64 n2735, Value.int IntKind.i64 n2736, Value.int IntKind.i64 n2737, Value.int IntKind.i64 n2738, Value.int IntKind.i64 n2739, Value.int IntKind.i64 n2740, Value.int IntKind.i64 n2741]] w2727 fun e2742 w2743 =>
          ∃ n2744 : Int,
          ∃ p2745 : Option Addr,
          ∃ k2746 : Nat,
          ∃ k2747 : Nat,
          ∃ n2748 : Int,
          ∃ n2749 : Int,
          (
           e2742 = Ending.returned (Value.tuple #[Value.agg #[Value.int IntKind.i64 n2744, Value.slice p2745 k2746 k2747, Value.int IntKind.i64 n2748], Value.int IntKind.i64 n2749])) ∧
          LetA (Obj.cells #[Value.int IntKind.i64 (0 : Int), Value.slice none (0 : Nat) (0 : Nat), Value.int IntKind.i64 (0 : Int)] (32 : Nat)) w2743 fun b2750 w2751 =>
          (
           WrRow w2751 { block := b2750, off := (0 : Nat) } (0 : Nat) [Value.int IntKind.i64 n2744, Value.slice p2745 k2746 k2747, Value.int IntKind.i64 n2748]) ∧
          LetW (setRow w2751 { block := b2750, off := (0 : Nat) } (0 : Nat) [Value.int IntKind.i64 n2744, Value.slice p2745 k2746 k2747, Value.int IntKind.i64 n2748]) fun w2752 =>
          ∃ n2753 : Int,
          ∃ n2754 : Int,
          ∃ n2755 : Int,
          ∃ p2756 : Option Addr,
          ∃ k2757 : Nat,
          ∃ k2758 : Nat,
          ∃ n2759 : Int,
          ∃ n2760 : Int,
          ∃ n2761 : Int,
          ∃ n2762 : Int,
          ∃ n2763 : Int,
          ∃ n2764 : Int,
          ∃ n2765 : Int,
          ∃ n2766 : Int,
          (
           Row w2752 { block := b2587, off := (0 : Nat) } (0 : Nat) [Value.int IntKind.i64 n2753, Value.int IntKind.i64 n2754, Value.int IntKind.i64 n2755, Value.slice p2756 k2757 k2758, Value.int IntKind.i64 n2759, Value.int IntKind.i64 n2760, Value.int IntKind.i64 n2761, Value.int IntKind.i64 n2762, Value.int IntKind.i64 n2763, Value.int IntKind.i64 n2764, Value.int IntKind.i64 n2765, Value.int IntKind.i64 n2766]) ∧
          Ca Try.prog (18 : Nat) #[Value.agg #[Value.int IntKind.i64 n2753, Value.int IntKind.i64 n2754, Value.int IntKind.i64 n2755, Value.slice p2756 k2757 k2758, Value.int IntKind.i64 n2759, Value.int IntKind.i64 n2760, Value.int IntKind.i64 n2761, Value.int IntKind.i64 n2762, Value.int IntKind.i64 n2763, Value.int IntKind.i64 n2764, Value.int IntKind.i64 n2765, Value.int IntKind.i64 n2766]] w2752 fun e2767 w2768 =>
          ∃ n2769 : Int,
          ∃ p2770 : Option Addr,
          ∃ k2771 : Nat,
          ∃ k2772 : Nat,
          ∃ n2773 : Int,
          ∃ n2774 : Int,
          (
           e2767 = Ending.returned (Value.tuple #[Value.agg #[Value.int IntKind.i64 n2769, Value.slice p2770 k2771 k2772, Value.int IntKind.i64 n2773], Value.int IntKind.i64 n2774])) ∧
          LetA (Obj.cells #[Value.int IntKind.i64 (0 : Int), Value.slice none (0 : Nat) (0 : Nat), Value.int IntKind.i64 (0 : Int)] (32 : Nat)) w2768 fun b2775 w2776 =>
          (
           WrRow w2776 { block := b2775, off := (0 : Nat) } (0 : Nat) [Value.int IntKind.i64 n2769, Value.slice p2770 k2771 k2772, Value.int IntKind.i64 n2773]) ∧
          LetW (setRow w2776 { block := b2775, off := (0 : Nat) } (0 : Nat) [Value.int IntKind.i64 n2769, Value.slice p2770 k2771 k2772, Value.int IntKind.i64 n2773]) fun w2777 =>
          ∃ n2778 : Int,
          ∃ n2779 : Int,
          ∃ n2780 : Int,
          ∃ p2781 : Option Addr,
          ∃ k2782 : Nat,
          ∃ k2783 : Nat,
          ∃ n2784 : Int,
          ∃ n2785 : Int,
          ∃ n2786 : Int,
          ∃ n2787 : Int,
          ∃ n2788 : Int,
          ∃ n2789 : Int,
          ∃ n2790 : Int,
          ∃ n2791 : Int,
          (
           Row w2777 { block := b2324, off := (0 : Nat) } (0 : Nat) [Value.int IntKind.i64 n2778, Value.int IntKind.i64 n2779, Value.int IntKind.i64 n2780, Value.slice p2781 k2782 k2783, Value.int IntKind.i64 n2784, Value.int IntKind.i64 n2785, Value.int IntKind.i64 n2786, Value.int IntKind.i64 n2787, Value.int IntKind.i64 n2788, Value.int IntKind.i64 n2789, Value.int IntKind.i64 n2790, Value.int IntKind.i64 n2791]) ∧
          Ca Try.prog (19 : Nat) #[Value.agg #[Value.int IntKind.i64 n2778, Value.int IntKind.i64 n2779, Value.int IntKind.i64 n2780, Value.slice p2781 k2782 k2783, Value.int IntKind.i64 n2784, Value.int IntKind.i64 n2785, Value.int IntKind.i64 n2786, Value.int IntKind.i64 n2787, Value.int IntKind.i64 n2788, Value.int IntKind.i64 n2789, Value.int IntKind.i64 n2790, Value.int IntKind.i64 n2791]] w2777 fun e2792 w2793 =>
          ∃ n2794 : Int,
          ∃ p2795 : Option Addr,
          ∃ k2796 : Nat,
          ∃ k2797 : Nat,
          ∃ n2798 : Int,
          ∃ n2799 : Int,
          (
           e2792 = Ending.returned (Value.tuple #[Value.agg #[Value.int IntKind.i64 n2794, Value.slice p2795 k2796 k2797, Value.int IntKind.i64 n2798], Value.int IntKind.i64 n2799])) ∧
          LetA (Obj.cells #[Value.int IntKind.i64 (0 : Int), Value.slice none (0 : Nat) (0 : Nat), Value.int IntKind.i64 (0 : Int)] (32 : Nat)) w2793 fun b2800 w2801 =>
          (
           WrRow w2801 { block := b2800, off := (0 : Nat) } (0 : Nat) [Value.int IntKind.i64 n2794, Value.slice p2795 k2796 k2797, Value.int IntKind.i64 n2798]) ∧
          LetW (setRow w2801 { block := b2800, off := (0 : Nat) } (0 : Nat) [Value.int IntKind.i64 n2794, Value.slice p2795 k2796 k2797, Value.int IntKind.i64 n2798]) fun w2802 =>
          ∃ n2803 : Int,
          ∃ p2804 : Option Addr,
          ∃ k2805 : Nat,
          ∃ k2806 : Nat,
          ∃ n2807 : Int,
          (
           Row w2802 { block := b2725, off := (0 : Nat) } (0 : Nat) [Value.int IntKind.i64 n2803, Value.slice p2804 k2805 k2806, Value.int IntKind.i64 n2807]) ∧
          ∃ n2808 : Int,
          ∃ p2809 : Option Addr,
          ∃ k2810 : Nat,
          ∃ k2811 : Nat,
          ∃ n2812 : Int,
          (
           Row w2802 { block := b2750, off := (0 : Nat) } (0 : Nat) [Value.int IntKind.i64 n2808, Value.slice p2809 k2810 k2811, Value.int IntKind.i64 n2812]) ∧
          Ca Try.prog (20 : Nat) #[Value.agg #[Value.int IntKind.i64 n2803, Value.slice p2804 k2805 k2806, Value.int IntKind.i64 n2807], Value.agg #[Value.int IntKind.i64 n2808, Value.slice p2809 k2810 k2811, Value.int IntKind.i64 n2812]] w2802 fun e2813 w2814 =>
          ∃ b2815 : Bool,
          (
           e2813 = Ending.returned (Value.bool b2815)) ∧
          Br (b2815)
           (
            Br (n2724 == n2749)
             (
              ∃ n2816 : Int,
              ∃ p2817 : Option Addr,
              ∃ k2818 : Nat,
              ∃ k2819 : Nat,
              ∃ n2820 : Int,
              (
               Row w2814 { block := b2775, off := (0 : Nat) } (0 : Nat) [Value.int IntKind.i64 n2816, Value.slice p2817 k2818 k2819, Value.int IntKind.i64 n2820]) ∧
              ∃ n2821 : Int,
              ∃ p2822 : Option Addr,
              ∃ k2823 : Nat,
              ∃ k2824 : Nat,
              ∃ n2825 : Int,
              (
               Row w2814 { block := b2800, off := (0 : Nat) } (0 : Nat) [Value.int IntKind.i64 n2821, Value.slice p2822 k2823 k2824, Value.int IntKind.i64 n2825]) ∧
              Ca Try.prog (20 : Nat) #[Value.agg #[Value.int IntKind.i64 n2816, Value.slice p2817 k2818 k2819, Value.int IntKind.i64 n2820], Value.agg #[Value.int IntKind.i64 n2821, Value.slice p2822 k2823 k2824, Value.int IntKind.i64 n2825]] w2814 fun e2826 w2827 =>
              ∃ b2828 : Bool,
              (
               e2826 = Ending.returned (Value.bool b2828)) ∧
              Br (b2828)
               (
                Br (n2774 == n2799)
                 (
                  Ca Try.prog (12 : Nat) #[] w2827 fun e2829 w2830 =>
                  ∃ b2831 : Bool,
                  (
                   e2829 = Ending.returned (Value.bool b2831)) ∧
                  R (Ending.returned (Value.bool b2831)) w2830)
                 (
                  R (Ending.returned (Value.bool false)) w2827))
               (
                R (Ending.returned (Value.bool false)) w2827))
             (
              R (Ending.returned (Value.bool false)) w2814))
           (
            R (Ending.returned (Value.bool false)) w2814))))) ∧
   LetA (Obj.cells #[Value.int IntKind.i64 (0 : Int), Value.int IntKind.i64 (0 : Int), Value.int IntKind.i64 (0 : Int), Value.slice none (0 : Nat) (0 : Nat), Value.int IntKind.i64 (0 : Int), Value.int IntKind.i64 (0 : Int), Value.int IntKind.i64 (0 : Int), Value.int IntKind.i64 (0 : Int), Value.int IntKind.i64 (0 : Int), Value.int IntKind.i64 (0 : Int), Value.int IntKind.i64 (0 : Int), Value.int IntKind.i64 (0 : Int)] (24 : Nat)) w2325 fun b2832 w2833 =>
   (
    Row w2833 { block := b15, off := (0 : Nat) } (0 : Nat) [Value.int IntKind.i64 n63, Value.int IntKind.i64 n64, Value.int IntKind.i64 n65, Value.slice p66 k67 k68, Value.int IntKind.i64 n69, Value.int IntKind.i64 n70, Value.int IntKind.i64 n71, Value.int IntKind.i64 n72, Value.int IntKind.i64 n73, Value.int IntKind.i64 n74, Value.int IntKind.i64 n75, Value.int IntKind.i64 n76]) ∧
   (
    Row w2833 { block := b37, off := (0 : Nat) } (0 : Nat) [Value.int IntKind.i64 n49, Value.int IntKind.i64 n50, Value.int IntKind.i64 n51, Value.slice p52 k53 k54, Value.int IntKind.i64 n55, Value.int IntKind.i64 n56, Value.int IntKind.i64 n57, Value.int IntKind.i64 n58, Value.int IntKind.i64 n59, Value.int IntKind.i64 n60, Value.int IntKind.i64 n61, Value.int IntKind.i64 n62]) ∧
   Ca Try.prog (13 : Nat) #[Value.agg #[Value.int IntKind.i64 n49, Value.int IntKind.i64 n50, Value.int IntKind.i64 n51, Value.slice p52 k53 k54, Value.int IntKind.i64 n55, Value.int IntKind.i64 n56, Value.int IntKind.i64 n57, Value.int IntKind.i64 n58, Value.int IntKind.i64 n59, Value.int IntKind.i64 n60, Value.int IntKind.i64 n61, Value.int IntKind.i64 n62]] w2833 fun e2834 w2835 =>
   ∃ n2836 : Int,
   ∃ n2837 : Int,
   ∃ n2838 : Int,
   ∃ p2839 : Option Addr,
   ∃ k2840 : Nat,
   ∃ k2841 : Nat,
   ∃ n2842 : Int,
   ∃ n2843 : Int,
   ∃ n2844 : Int,
   ∃ n2845 : Int,
   ∃ n2846 : Int,
   ∃ n2847 : Int,
   ∃ n2848 : Int,
   ∃ n2849 : Int,
   (
    e2834 = Ending.returned (Value.agg #[Value.int IntKind.i64 n2836, Value.int IntKind.i64 n2837, Value.int IntKind.i64 n2838, Value.slice p2839 k2840 k2841, Value.int IntKind.i64 n2842, Value.int IntKind.i64 n2843, Value.int IntKind.i64 n2844, Value.int IntKind.i64 n2845, Value.int IntKind.i64 n2846, Value.int IntKind.i64 n2847, Value.int IntKind.i64 n2848, Value.int IntKind.i64 n2849])) ∧
   (
    Row w2835 { block := b15, off := (0 : Nat) } (0 : Nat) [Value.int IntKind.i64 n63, Value.int IntKind.i64 n64, Value.int IntKind.i64 n65, Value.slice p66 k67 k68, Value.int IntKind.i64 n69, Value.int IntKind.i64 n70, Value.int IntKind.i64 n71, Value.int IntKind.i64 n72, Value.int IntKind.i64 n73, Value.int IntKind.i64 n74, Value.int IntKind.i64 n75, Value.int IntKind.i64 n76]) ∧
   Ca Try.prog (14 : Nat) #[Value.agg #[Value.int IntKind.i64 n63, Value.int IntKind.i64 n64, Value.int IntKind.i64 n65, Value.slice p66 k67 k68, Value.int IntKind.i64 n69, Value.int IntKind.i64 n70, Value.int IntKind.i64 n71, Value.int IntKind.i64 n72, Value.int IntKind.i64 n73, Value.int IntKind.i64 n74, Value.int IntKind.i64 n75, Value.int IntKind.i64 n76]] w2835 fun e2850 w2851 =>
   ∃ n2852 : Int,
   ∃ n2853 : Int,
   ∃ n2854 : Int,
   ∃ p2855 : Option Addr,
   ∃ k2856 : Nat,
   ∃ k2857 : Nat,
   ∃ n2858 : Int,
   ∃ n2859 : Int,
   ∃ n2860 : Int,
   ∃ n2861 : Int,
   ∃ n2862 : Int,
   ∃ n2863 : Int,
   ∃ n2864 : Int,
   ∃ n2865 : Int,
   (
    e2850 = Ending.returned (Value.agg #[Value.int IntKind.i64 n2852, Value.int IntKind.i64 n2853, Value.int IntKind.i64 n2854, Value.slice p2855 k2856 k2857, Value.int IntKind.i64 n2858, Value.int IntKind.i64 n2859, Value.int IntKind.i64 n2860, Value.int IntKind.i64 n2861, Value.int IntKind.i64 n2862, Value.int IntKind.i64 n2863, Value.int IntKind.i64 n2864, Value.int IntKind.i64 n2865])) ∧
   (
    WrRow w2851 { block := b2832, off := (0 : Nat) } (0 : Nat) [Value.int IntKind.i64 n2836, Value.int IntKind.i64 n2837, Value.int IntKind.i64 n2838, Value.slice p2839 k2840 k2841, Value.int IntKind.i64 n2842, Value.int IntKind.i64 n2843, Value.int IntKind.i64 n2844, Value.int IntKind.i64 n2845, Value.int IntKind.i64 n2846, Value.int IntKind.i64 n2847, Value.int IntKind.i64 n2848, Value.int IntKind.i64 n2849]) ∧
   LetW (setRow w2851 { block := b2832, off := (0 : Nat) } (0 : Nat) [Value.int IntKind.i64 n2836, Value.int IntKind.i64 n2837, Value.int IntKind.i64 n2838, Value.slice p2839 k2840 k2841, Value.int IntKind.i64 n2842, Value.int IntKind.i64 n2843, Value.int IntKind.i64 n2844, Value.int IntKind.i64 n2845, Value.int IntKind.i64 n2846, Value.int IntKind.i64 n2847, Value.int IntKind.i64 n2848, Value.int IntKind.i64 n2849]) fun w2866 =>
   (
    WrRow w2866 { block := b2324, off := (0 : Nat) } (0 : Nat) [Value.int IntKind.i64 n2852, Value.int IntKind.i64 n2853, Value.int IntKind.i64 n2854, Value.slice p2855 k2856 k2857, Value.int IntKind.i64 n2858, Value.int IntKind.i64 n2859, Value.int IntKind.i64 n2860, Value.int IntKind.i64 n2861, Value.int IntKind.i64 n2862, Value.int IntKind.i64 n2863, Value.int IntKind.i64 n2864, Value.int IntKind.i64 n2865]) ∧
   LetW (setRow w2866 { block := b2324, off := (0 : Nat) } (0 : Nat) [Value.int IntKind.i64 n2852, Value.int IntKind.i64 n2853, Value.int IntKind.i64 n2854, Value.slice p2855 k2856 k2857, Value.int IntKind.i64 n2858, Value.int IntKind.i64 n2859, Value.int IntKind.i64 n2860, Value.int IntKind.i64 n2861, Value.int IntKind.i64 n2862, Value.int IntKind.i64 n2863, Value.int IntKind.i64 n2864, Value.int IntKind.i64 n2865]) fun w2867 =>
   ∃ n2868 : Int,
   ∃ n2869 : Int,
   ∃ n2870 : Int,
   ∃ p2871 : Option Addr,
   ∃ k2872 : Nat,
   ∃ k2873 : Nat,
   ∃ n2874 : Int,
   ∃ n2875 : Int,
   ∃ n2876 : Int,
   ∃ n2877 : Int,
   ∃ n2878 : Int,
   ∃ n2879 : Int,
   ∃ n2880 : Int,
   ∃ n2881 : Int,
   (
    Row w2867 { block := b2832, off := (0 : Nat) } (0 : Nat) [Value.int IntKind.i64 n2868, Value.int IntKind.i64 n2869, Value.int IntKind.i64 n2870, Value.slice p2871 k2872 k2873, Value.int IntKind.i64 n2874, Value.int IntKind.i64 n2875, Value.int IntKind.i64 n2876, Value.int IntKind.i64 n2877, Value.int IntKind.i64 n2878, Value.int IntKind.i64 n2879, Value.int IntKind.i64 n2880, Value.int IntKind.i64 n2881]) ∧
   ∃ n2882 : Int,
   ∃ n2883 : Int,
   ∃ n2884 : Int,
   ∃ p2885 : Option Addr,
   ∃ k2886 : Nat,
   ∃ k2887 : Nat,
   ∃ n2888 : Int,
   ∃ n2889 : Int,
   ∃ n2890 : Int,
   ∃ n2891 : Int,
   ∃ n2892 : Int,
   ∃ n2893 : Int,
   ∃ n2894 : Int,
   ∃ n2895 : Int,
   (
    Row w2867 { block := b2324, off := (0 : Nat) } (0 : Nat) [Value.int IntKind.i64 n2882, Value.int IntKind.i64 n2883, Value.int IntKind.i64 n2884, Value.slice p2885 k2886 k2887, Value.int IntKind.i64 n2888, Value.int IntKind.i64 n2889, Value.int IntKind.i64 n2890, Value.int IntKind.i64 n2891, Value.int IntKind.i64 n2892, Value.int IntKind.i64 n2893, Value.int IntKind.i64 n2894, Value.int IntKind.i64 n2895]) ∧
   Ca Try.prog (15 : Nat) #[Value.agg #[Value.int IntKind.i64 n2868, Value.int IntKind.i64 n2869, Value.int IntKind.i64 n2870, Value.slice p2871 k2872 k2873, Value.int IntKind.i64 n2874, Value.int IntKind.i64 n2875, Value.int IntKind.i64 n2876, Value.int IntKind.i64 n2877, Value.int IntKind.i64 n2878, Value.int IntKind.i64 n2879, Value.int IntKind.i64 n2880, Value.int IntKind.i64 n2881], Value.agg #[Value.int IntKind.i64 n2882, Value.int IntKind.i64 n2883, Value.int IntKind.i64 n2884, Value.slice p2885 k2886 k2887, Value.int IntKind.i64 n2888, Value.int IntKind.i64 n2889, Value.int IntKind.i64 n2890, Value.int IntKind.i64 n2891, Value.int IntKind.i64 n2892, Value.int IntKind.i64 n2893, Value.int IntKind.i64 n2894, Value.int IntKind.i64 n2895]] w2867 fun e2896 w2897 =>
   ∃ b2898 : Bool,
   (
    e2896 = Ending.returned (Value.bool b2898)) ∧
   Br (!b2898)
    (
     R (Ending.returned (Value.bool false)) w2897)
    (
     ∃ n2899 : Int,
     ∃ n2900 : Int,
     ∃ n2901 : Int,
     ∃ p2902 : Option Addr,
     ∃ k2903 : Nat,
     ∃ k2904 : Nat,
     ∃ n2905 : Int,
     ∃ n2906 : Int,
     ∃ n2907 : Int,
     ∃ n2908 : Int,
     ∃ n2909 : Int,
     ∃ n2910 : Int,
     ∃ n2911 : Int,
     ∃ n2912 : Int,
     (
      Row w2897 { block := b37, off := (0 : Nat) } (0 : Nat) [Value.int IntKind.i64 n2899, Value.int IntKind.i64 n2900, Value.int IntKind.i64 n2901, Value.slice p2902 k2903 k2904, Value.int IntKind.i64 n2905, Value.int IntKind.i64 n2906, Value.int IntKind.i64 n2907, Value.int IntKind.i64 n2908, Value.int IntKind.i64 n2909, Value.int IntKind.i64 n2910, Value.int IntKind.i64 n2911, Value.int IntKind.i64 n2912]) ∧
     ∃ n2913 : Int,
     ∃ n2914 : Int,
     ∃ n2915 : Int,
     ∃ p2916 : Option Addr,
     ∃ k2917 : Nat,
     ∃ k2918 : Nat,
     ∃ n2919 : Int,
     ∃ n2920 : Int,
     ∃ n2921 : Int,
     ∃ n2922 : Int,
     ∃ n2923 : Int,
     ∃ n2924 : Int,
     ∃ n2925 : Int,
     ∃ n2926 : Int,
     (
      Row w2897 { block := b15, off := (0 : Nat) } (0 : Nat) [Value.int IntKind.i64 n2913, Value.int IntKind.i64 n2914, Value.int IntKind.i64 n2915, Value.slice p2916 k2917 k2918, Value.int IntKind.i64 n2919, Value.int IntKind.i64 n2920, Value.int IntKind.i64 n2921, Value.int IntKind.i64 n2922, Value.int IntKind.i64 n2923, Value.int IntKind.i64 n2924, Value.int IntKind.i64 n2925, Value.int IntKind.i64 n2926]) ∧
     Ca Try.prog (15 : Nat) #[Value.agg #[Value.int IntKind.i64 n2899, Value.int IntKind.i64 n2900, Value.int IntKind.i64 n2901, Value.slice p2902 k2903 k2904, Value.int IntKind.i64 n2905, Value.int IntKind.i64 n2906, Value.int IntKind.i64 n2907, Value.int IntKind.i64 n2908, Value.int IntKind.i64 n2909, Value.int IntKind.i64 n2910, Value.int IntKind.i64 n2911, Value.int IntKind.i64 n2912], Value.agg #[Value.int IntKind.i64 n2913, Value.int IntKind.i64 n2914, Value.int IntKind.i64 n2915, Value.slice p2916 k2917 k2918, Value.int IntKind.i64 n2919, Value.int IntKind.i64 n2920, Value.int IntKind.i64 n2921, Value.int IntKind.i64 n2922, Value.int IntKind.i64 n2923, Value.int IntKind.i64 n2924, Value.int IntKind.i64 n2925, Value.int IntKind.i64 n2926]] w2897 fun e2927 w2928 =>
     ∃ b2929 : Bool,
     (
      e2927 = Ending.returned (Value.bool b2929)) ∧
     Br (!b2929)
      (
       R (Ending.returned (Value.bool false)) w2928)
      (
       ∃ n2930 : Int,
       ∃ n2931 : Int,
       ∃ n2932 : Int,
       ∃ p2933 : Option Addr,
       ∃ k2934 : Nat,
       ∃ k2935 : Nat,
       ∃ n2936 : Int,
       ∃ n2937 : Int,
       ∃ n2938 : Int,
       ∃ n2939 : Int,
       ∃ n2940 : Int,
       ∃ n2941 : Int,
       ∃ n2942 : Int,
       ∃ n2943 : Int,
       (
        Row w2928 { block := b37, off := (0 : Nat) } (0 : Nat) [Value.int IntKind.i64 n2930, Value.int IntKind.i64 n2931, Value.int IntKind.i64 n2932, Value.slice p2933 k2934 k2935, Value.int IntKind.i64 n2936, Value.int IntKind.i64 n2937, Value.int IntKind.i64 n2938, Value.int IntKind.i64 n2939, Value.int IntKind.i64 n2940, Value.int IntKind.i64 n2941, Value.int IntKind.i64 n2942, Value.int IntKind.i64 n2943]) ∧
       ∃ n2944 : Int,
       ∃ n2945 : Int,
       ∃ n2946 : Int,
       ∃ p2947 : Option Addr,
       ∃ k2948 : Nat,
       ∃ k2949 : Nat,
       ∃ n2950 : Int,
       ∃ n2951 : Int,
       ∃ n2952 : Int,
       ∃ n2953 : Int,
       ∃ n2954 : Int,
       ∃ n2955 : Int,
       ∃ n2956 : Int,
       ∃ n2957 : Int,
       (
        Row w2928 { block := b15, off := (0 : Nat) } (0 : Nat) [Value.int IntKind.i64 n2944, Value.int IntKind.i64 n2945, Value.int IntKind.i64 n2946, Value.slice p2947 k2948 k2949, Value.int IntKind.i64 n2950, Value.int IntKind.i64 n2951, Value.int IntKind.i64 n2952, Value.int IntKind.i64 n2953, Value.int IntKind.i64 n2954, Value.int IntKind.i64 n2955, Value.int IntKind.i64 n2956, Value.int IntKind.i64 n2957]) ∧
       Ca Try.prog (16 : Nat) #[Value.agg #[Value.int IntKind.i64 n2930, Value.int IntKind.i64 n2931, Value.int IntKind.i64 n2932, Value.slice p2933 k2934 k2935, Value.int IntKind.i64 n2936, Value.int IntKind.i64 n2937, Value.int IntKind.i64 n2938, Value.int IntKind.i64 n2939, Value.int IntKind.i64 n2940, Value.int IntKind.i64 n2941, Value.int IntKind.i64 n2942, Value.int IntKind.i64 n2943]] w2928 fun e2958 w2959 =>
       ∃ n2960 : Int,
       (
        e2958 = Ending.returned (Value.int IntKind.i64 n2960)) ∧
       (
        Row w2959 { block := b15, off := (0 : Nat) } (0 : Nat) [Value.int IntKind.i64 n2944, Value.int IntKind.i64 n2945, Value.int IntKind.i64 n2946, Value.slice p2947 k2948 k2949, Value.int IntKind.i64 n2950, Value.int IntKind.i64 n2951, Value.int IntKind.i64 n2952, Value.int IntKind.i64 n2953, Value.int IntKind.i64 n2954, Value.int IntKind.i64 n2955, Value.int IntKind.i64 n2956, Value.int IntKind.i64 n2957]) ∧
       Ca Try.prog (17 : Nat) #[Value.agg #[Value.int IntKind.i64 n2944, Value.int IntKind.i64 n2945, Value.int IntKind.i64 n2946, Value.slice p2947 k2948 k2949, Value.int IntKind.i64 n2950, Value.int IntKind.i64 n2951, Value.int IntKind.i64 n2952, Value.int IntKind.i64 n2953, Value.int IntKind.i64 n2954, Value.int IntKind.i64 n2955, Value.int IntKind.i64 n2956, Value.int IntKind.i64 n2957]] w2959 fun e2961 w2962 =>
       ∃ n2963 : Int,
       (
        e2961 = Ending.returned (Value.int IntKind.i64 n2963)) ∧
       Br (n2960 != n2963)
        (
         R (Ending.returned (Value.bool false)) w2962)
        (
         ∃ n2964 : Int,
         ∃ n2965 : Int,
         ∃ n2966 : Int,
         ∃ p2967 : Option Addr,
         ∃ k2968 : Nat,
         ∃ k2969 : Nat,
         ∃ n2970 : Int,
         ∃ n2971 : Int,
         ∃ n2972 : Int,
         ∃ n2973 : Int,
         ∃ n2974 : Int,
         ∃ n2975 : Int,
         ∃ n2976 : Int,
         ∃ n2977 : Int,
         (
          Row w2962 { block := b37, off := (0 : Nat) } (0 : Nat) [Value.int IntKind.i64 n2964, Value.int IntKind.i64 n2965, Value.int IntKind.i64 n2966, Value.slice p2967 k2968 k2969, Value.int IntKind.i64 n2970, Value.int IntKind.i64 n2971, Value.int IntKind.i64 n2972, Value.int IntKind.i64 n2973, Value.int IntKind.i64 n2974, Value.int IntKind.i64 n2975, Value.int IntKind.i64 n2976, Value.int IntKind.i64 n2977]) ∧
         Ca Try.prog (18 : Nat) #[Value.agg #[Value.int IntKind.i64 n2964, Value.int IntKind.i64 n2965, Value.int IntKind.i64 n2966, Value.slice p2967 k2968 k2969, Value.int IntKind.i64 n2970, Value.int IntKind.i64 n2971, Value.int IntKind.i64 n2972, Value.int IntKind.i64 n2973, Value.int IntKind.i64 n2974, Value.int IntKind.i64 n2975, Value.int IntKind.i64 n2976, Value.int IntKind.i64 n2977]] w2962 fun e2978 w2979 =>
         ∃ n2980 : Int,
         ∃ p2981 : Option Addr,
         ∃ k2982 : Nat,
         ∃ k2983 : Nat,
         ∃ n2984 : Int,
         ∃ n2985 : Int,
         (
          e2978 = Ending.returned (Value.tuple #[Value.agg #[Value.int IntKind.i64 n2980, Value.slice p2981 k2982 k2983, Value.int IntKind.i64 n2984], Value.int IntKind.i64 n2985])) ∧
         LetA (Obj.cells #[Value.int IntKind.i64 (0 : Int), Value.slice none (0 : Nat) (0 : Nat), Value.int IntKind.i64 (0 : Int)] (32 : Nat)) w2979 fun b2986 w2987 =>
         (
          WrRow w2987 { block := b2986, off := (0 : Nat) } (0 : Nat) [Value.int IntKind.i64 n2980, Value.slice p2981 k2982 k2983, Value.int IntKind.i64 n2984]) ∧
         LetW (setRow w2987 { block := b2986, off := (0 : Nat) } (0 : Nat) [Value.int IntKind.i64 n2980, Value.slice p2981 k2982 k2983, Value.int IntKind.i64 n2984]) fun w2988 =>
         ∃ n2989 : Int,
         ∃ n2990 : Int,
         ∃ n2991 : Int,
         ∃ p2992 : Option Addr,
         ∃ k2993 : Nat,
         ∃ k2994 : Nat,
         ∃ n2995 : Int,
         ∃ n2996 : Int,
         ∃ n2997 : Int,
         ∃ n2998 : Int,
         ∃ n2999 : Int,
         ∃ n3000 : Int,
         ∃ n3001 : Int,
         ∃ n3002 : Int,
         (
          Row w2988 { block := b15, off := (0 : Nat) } (0 : Nat) [Value.int IntKind.i64 n2989, Value.int IntKind.i64 n2990, Value.int IntKind.i64 n2991, Value.slice p2992 k2993 k2994, Value.int IntKind.i64 n2995, Value.int IntKind.i64 n2996, Value.int IntKind.i64 n2997, Value.int IntKind.i64 n2998, Value.int IntKind.i64 n2999, Value.int IntKind.i64 n3000, Value.int IntKind.i64 n3001, Value.int IntKind.i64 n3002]) ∧
         Ca Try.prog (19 : Nat) #[Value.agg #[Value.int IntKind.i64 n2989, Value.int IntKind.i64 n2990, Value.int IntKind.i64 n2991, Value.slice p2992 k2993 k2994, Value.int IntKind.i64 n2995, Value.int IntKind.i64 n2996, Value.int IntKind.i64 n2997, Value.int IntKind.i64 n2998, Value.int IntKind.i64 n2999, Value.int IntKind.i64 n3000, Value.int IntKind.i64 n3001, Value.int IntKind.i64 n3002]] w2988 fun e3003 w3004 =>
         ∃ n3005 : Int,
         ∃ p3006 : Option Addr,
         ∃ k3007 : Nat,
         ∃ k3008 : Nat,
         ∃ n3009 : Int,
         ∃ n3010 : Int,
         (
          e3003 = Ending.returned (Value.tuple #[Value.agg #[Value.int IntKind.i64 n3005, Value.slice p3006 k3007 k3008, Value.int IntKind.i64 n3009], Value.int IntKind.i64 n3010])) ∧
         LetA (Obj.cells #[Value.int IntKind.i64 (0 : Int), Value.slice none (0 : Nat) (0 : Nat), Value.int IntKind.i64 (0 : Int)] (32 : Nat)) w3004 fun b3011 w3012 =>
         (
          WrRow w3012 { block := b3011, off := (0 : Nat) } (0 : Nat) [Value.int IntKind.i64 n3005, Value.slice p3006 k3007 k3008, Value.int IntKind.i64 n3009]) ∧
         LetW (setRow w3012 { block := b3011, off := (0 : Nat) } (0 : Nat) [Value.int IntKind.i64 n3005, Value.slice p3006 k3007 k3008, Value.int IntKind.i64 n3009]) fun w3013 =>
         ∃ n3014 : Int,
         ∃ n3015 : Int,
         ∃ n3016 : Int,
         ∃ p3017 : Option Addr,
         ∃ k3018 : Nat,
         ∃ k3019 : Nat,
         ∃ n3020 : Int,
         ∃ n3021 : Int,
         ∃ n3022 : Int,
         ∃ n3023 : Int,
         ∃ n3024 : Int,
         ∃ n3025 : Int,
         ∃ n3026 : Int,
         ∃ n3027 : Int,
         (
          Row w3013 { block := b2832, off := (0 : Nat) } (0 : Nat) [Value.int IntKind.i64 n3014, Value.int IntKind.i64 n3015, Value.int IntKind.i64 n3016, Value.slice p3017 k3018 k3019, Value.int IntKind.i64 n3020, Value.int IntKind.i64 n3021, Value.int IntKind.i64 n3022, Value.int IntKind.i64 n3023, Value.int IntKind.i64 n3024, Value.int IntKind.i64 n3025, Value.int IntKind.i64 n3026, Value.int IntKind.i64 n3027]) ∧
         Ca Try.prog (18 : Nat) #[Value.agg #[Value.int IntKind.i64 n3014, Value.int IntKind.i64 n3015, Value.int IntKind.i64 n3016, Value.slice p3017 k3018 k3019, Value.int IntKind.i64 n3020, Value.int IntKind.i64 n3021, Value.int IntKind.i64 n3022, Value.int IntKind.i64 n3023, Value.int IntKind.i64 n3024, Value.int IntKind.i64 n3025, Value.int IntKind.i64 n3026, Value.int IntKind.i64 n3027]] w3013 fun e3028 w3029 =>
         ∃ n3030 : Int,
         ∃ p3031 : Option Addr,
         ∃ k3032 : Nat,
         ∃ k3033 : Nat,
         ∃ n3034 : Int,
         ∃ n3035 : Int,
         (
          e3028 = Ending.returned (Value.tuple #[Value.agg #[Value.int IntKind.i64 n3030, Value.slice p3031 k3032 k3033, Value.int IntKind.i64 n3034], Value.int IntKind.i64 n3035])) ∧
         LetA (Obj.cells #[Value.int IntKind.i64 (0 : Int), Value.slice none (0 : Nat) (0 : Nat), Value.int IntKind.i64 (0 : Int)] (32 : Nat)) w3029 fun b3036 w3037 =>
         (
          WrRow w3037 { block := b3036, off := (0 : Nat) } (0 : Nat) [Value.int IntKind.i64 n3030, Value.slice p3031 k3032 k3033, Value.int IntKind.i64 n3034]) ∧
         LetW (setRow w3037 { block := b3036, off := (0 : Nat) } (0 : Nat) [Value.int IntKind.i64 n3030, Value.slice p3031 k3032 k3033, Value.int IntKind.i64 n3034]) fun w3038 =>
         ∃ n3039 : Int,
         ∃ n3040 : Int,
         ∃ n3041 : Int,
         ∃ p3042 : Option Addr,
         ∃ k3043 : Nat,
         ∃ k3044 : Nat,
         ∃ n3045 : Int,
         ∃ n3046 : Int,
         ∃ n3047 : Int,
         ∃ n3048 : Int,
         ∃ n3049 : Int,
         ∃ n3050 : Int,
         ∃ n3051 : Int,
         ∃ n3052 : Int,
         (
          Row w3038 { block := b2324, off := (0 : Nat) } (0 : Nat) [Value.int IntKind.i64 n3039, Value.int IntKind.i64 n3040, Value.int IntKind.i64 n3041, Value.slice p3042 k3043 k3044, Value.int IntKind.i64 n3045, Value.int IntKind.i64 n3046, Value.int IntKind.i64 n3047, Value.int IntKind.i64 n3048, Value.int IntKind.i64 n3049, Value.int IntKind.i64 n3050, Value.int IntKind.i64 n3051, Value.int IntKind.i64 n3052]) ∧
         Ca Try.prog (19 : Nat) #[Value.agg #[Value.int IntKind.i64 n3039, Value.int IntKind.i64 n3040, Value.int IntKind.i64 n3041, Value.slice p3042 k3043 k3044, Value.int IntKind.i64 n3045, Value.int IntKind.i64 n3046, Value.int IntKind.i64 n3047, Value.int IntKind.i64 n3048, Value.int IntKind.i64 n3049, Value.int IntKind.i64 n3050, Value.int IntKind.i64 n3051, Value.int IntKind.i64 n3052]] w3038 fun e3053 w3054 =>
         ∃ n3055 : Int,
         ∃ p3056 : Option Addr,
         ∃ k3057 : Nat,
         ∃ k3058 : Nat,
         ∃ n3059 : Int,
         ∃ n3060 : Int,
         (
          e3053 = Ending.returned (Value.tuple #[Value.agg #[Value.int IntKind.i64 n3055, Value.slice p3056 k3057 k3058, Value.int IntKind.i64 n3059], Value.int IntKind.i64 n3060])) ∧
         LetA (Obj.cells #[Value.int IntKind.i64 (0 : Int), Value.slice none (0 : Nat) (0 : Nat), Value.int IntKind.i64 (0 : Int)] (32 : Nat)) w3054 fun b3061 w3062 =>
         (
          WrRow w3062 { block := b3061, off := (0 : Nat) } (0 : Nat) [Value.int IntKind.i64 n3055, Value.slice p3056 k3057 k3058, Value.int IntKind.i64 n3059]) ∧
         LetW (setRow w3062 { block := b3061, off := (0 : Nat) } (0 : Nat) [Value.int IntKind.i64 n3055, Value.slice p3056 k3057 k3058, Value.int IntKind.i64 n3059]) fun w3063 =>
         ∃ n3064 : Int,
         ∃ p3065 : Option Addr,
         ∃ k3066 : Nat,
         ∃ k3067 : Nat,
         ∃ n3068 : Int,
         (
          Row w3063 { block := b2986, off := (0 : Nat) } (0 : Nat) [Value.int IntKind.i64 n3064, Value.slice p3065 k3066 k3067, Value.int IntKind.i64 n3068]) ∧
         ∃ n3069 : Int,
         ∃ p3070 : Option Addr,
         ∃ k3071 : Nat,
         ∃ k3072 : Nat,
         ∃ n3073 : Int,
         (
          Row w3063 { block := b3011, off := (0 : Nat) } (0 : Nat) [Value.int IntKind.i64 n3069, Value.slice p3070 k3071 k3072, Value.int IntKind.i64 n3073]) ∧
         Ca Try.prog (20 : Nat) #[Value.agg #[Value.int IntKind.i64 n3064, Value.slice p3065 k3066 k3067, Value.int IntKind.i64 n3068], Value.agg #[Value.int IntKind.i64 n3069, Value.slice p3070 k3071 k3072, Value.int IntKind.i64 n3073]] w3063 fun e3074 w3075 =>
         ∃ b3076 : Bool,
         (
          e3074 = Ending.returned (Value.bool b3076)) ∧
         Br (b3076)
          (
           Br (n2985 == n3010)
            (
             ∃ n3077 : Int,
             ∃ p3078 : Option Addr,
             ∃ k3079 : Nat,
             ∃ k3080 : Nat,
             ∃ n3081 : Int,
             (
              Row w3075 { block := b3036, off := (0 : Nat) } (0 : Nat) [Value.int IntKind.i64 n3077, Value.slice p3078 k3079 k3080, Value.int IntKind.i64 n3081]) ∧
             ∃ n3082 : Int,
             ∃ p3083 : Option Addr,
             ∃ k3084 : Nat,
             ∃ k3085 : Nat,
             ∃ n3086 : Int,
             (
              Row w3075 { block := b3061, off := (0 : Nat) } (0 : Nat) [Value.int IntKind.i64 n3082, Value.slice p3083 k3084 k3085, Value.int IntKind.i64 n3086]) ∧
             Ca Try.prog (20 : Nat) #[Value.agg #[Value.int IntKind.i64 n3077, Value.slice p3078 k3079 k3080, Value.int IntKind.i64 n3081], Value.agg #[Value.int IntKind.i64 n3082, Value.slice p3083 k3084 k3085, Value.int IntKind.i64 n3086]] w3075 fun e3087 w3088 =>
             ∃ b3089 : Bool,
             (
              e3087 = Ending.returned (Value.bool b3089)) ∧
             Br (b3089)
              (
               Br (n3035 == n3060)
                (
                 Ca Try.prog (12 : Nat) #[] w3088 fun e3090 w3091 =>
                 ∃ b3092 : Bool,
                 (
                  e3090 = Ending.returned (Value.bool b3092)) ∧
                 R (Ending.returned (Value.bool b3092)) w3091)
                (
                 R (Ending.returned (Value.bool false)) w3088))
              (
               R (Ending.returned (Value.bool false)) w3088))
            (
             R (Ending.returned (Value.bool false)) w3075))
          (
           R (Ending.returned (Value.bool false)) w3075)))))
theorem lawSTell_ok (n1 : Int) (n2 : Int) (n3 : Int) (p4 : Option Addr) (k5 : Nat) (k6 : Nat) (n7 : Int) (n8 : Int) (n9 : Int) (n10 : Int) (n11 : Int) (n12 : Int) (n13 : Int) (n14 : Int) (w : World) (R : Ending → World → Prop) (h : lawSTell n1 n2 n3 p4 k5 k6 n7 n8 n9 n10 n11 n12 n13 n14 w R) : Ca Try.prog 3 #[Value.agg #[Value.int IntKind.i64 n1, Value.int IntKind.i64 n2, Value.int IntKind.i64 n3, Value.slice p4 k5 k6, Value.int IntKind.i64 n7, Value.int IntKind.i64 n8, Value.int IntKind.i64 n9, Value.int IntKind.i64 n10, Value.int IntKind.i64 n11, Value.int IntKind.i64 n12, Value.int IntKind.i64 n13, Value.int IntKind.i64 n14]] w R :=
  Ca.of_fvc (c := bodyOf Try.f3) (by kernel_rfl) Try.func3 (by kernel_rfl) [] (Eq.mp (by kernel_rfl) h)

end Go.Proofs.Ytljipmhkpnigkaa
