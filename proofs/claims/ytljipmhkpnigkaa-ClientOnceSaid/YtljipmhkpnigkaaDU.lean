/- The verification conditions of this seat's functions, printed by a program; the kernel holds each against the loaded code. -/
import Derived.Test.YtljipmhkpnigkaaProg
import Derived.KernelRfl
import Derived.Test.YtljipmhkpnigkaaV5
set_option maxRecDepth 100000
namespace Go.Proofs.Ytljipmhkpnigkaa
open Go Go.Vc Go.Proofs
def sfit (n1 : Int) (n2 : Int) (n3 : Int) (p4 : Option Addr) (k5 : Nat) (k6 : Nat) (n7 : Int) (n8 : Int) (n9 : Int) (n10 : Int) (n11 : Int) (n12 : Int) (n13 : Int) (n14 : Int) (w : World) (R : Ending → World → Prop) : Prop :=
 LetA (Obj.cells #[Value.int IntKind.i64 n1, Value.int IntKind.i64 n2, Value.int IntKind.i64 n3, Value.slice p4 k5 k6, Value.int IntKind.i64 n7, Value.int IntKind.i64 n8, Value.int IntKind.i64 n9, Value.int IntKind.i64 n10, Value.int IntKind.i64 n11, Value.int IntKind.i64 n12, Value.int IntKind.i64 n13, Value.int IntKind.i64 n14] (24 : Nat)) w fun b15 w16 =>
 LetA (Obj.cells #[Value.int IntKind.i64 (0 : Int), Value.int IntKind.i64 (0 : Int), Value.int IntKind.i64 (0 : Int), Value.slice none (0 : Nat) (0 : Nat), Value.int IntKind.i64 (0 : Int), Value.int IntKind.i64 (0 : Int), Value.int IntKind.i64 (0 : Int), Value.int IntKind.i64 (0 : Int), Value.int IntKind.i64 (0 : Int), Value.int IntKind.i64 (0 : Int), Value.int IntKind.i64 (0 : Int), Value.int IntKind.i64 (0 : Int)] (24 : Nat)) w16 fun b17 w18 =>
 Ca Try.prog (47 : Nat) #[Value.pointer (some { block := b15, off := (0 : Nat) }), Value.int IntKind.i64 (1 : Int), Value.int IntKind.i64 (6 : Int)] w18 fun e19 w20 =>
 (
  e19 = Ending.returned (Value.tuple #[])) ∧
 ∃ n21 : Int,
 (
  w20.cell? { block := b15, off := (0 : Nat) } = some (Value.int IntKind.i64 n21)) ∧
 Ca Try.prog (47 : Nat) #[Value.pointer (some { block := b15, off := (1 : Nat) }), Value.int IntKind.i64 (1 : Int), Value.int IntKind.i64 n21] w20 fun e22 w23 =>
 (
  e22 = Ending.returned (Value.tuple #[])) ∧
 Ca Try.prog (47 : Nat) #[Value.pointer (some { block := b15, off := (2 : Nat) }), Value.int IntKind.i64 (1 : Int), Value.int IntKind.i64 (6 : Int)] w23 fun e24 w25 =>
 (
  e24 = Ending.returned (Value.tuple #[])) ∧
 ∃ p26 : Option Addr,
 ∃ k27 : Nat,
 ∃ k28 : Nat,
 (
  w25.cell? { block := b15, off := (3 : Nat) } = some (Value.slice p26 k27 k28)) ∧
 ∃ p29 : Option Addr,
 ∃ k30 : Nat,
 ∃ k31 : Nat,
 (
  w25.cell? { block := b15, off := (3 : Nat) } = some (Value.slice p29 k30 k31)) ∧
 LetI (min (↑k30 : Int) (4 : Int)) fun n32 =>
 (
  (
   (0 : Int) ≤ (0 : Int)) ∧
  (
   (0 : Int) ≤ n32) ∧
  (
   n32 ≤ (↑k28 : Int)) ∧
  (
   (↑k28 : Int) ≤ (↑k28 : Int)) ∧
  (
   (
    false = true) →
   true = true)) ∧
 Ca Try.prog (49 : Nat) #[Value.slice (if (↑k28 : Int).toNat = Int.toNat (0 : Int) then p26 else Option.map (fun x => x.add (Int.toNat (0 : Int) * sizeT Try.prog (3 : Nat))) p26) (n32.toNat - (0 : Nat)) ((↑k28 : Int).toNat - (0 : Nat))] w25 fun e33 w34 =>
 ∃ p35 : Option Addr,
 ∃ k36 : Nat,
 ∃ k37 : Nat,
 (
  e33 = Ending.returned (Value.slice p35 k36 k37)) ∧
 (
  Wr w34 { block := b15, off := (3 : Nat) }) ∧
 LetW (w34.setCell { block := b15, off := (3 : Nat) } (Value.slice p35 k36 k37)) fun w38 =>
 ∃ p39 : Option Addr,
 ∃ k40 : Nat,
 ∃ k41 : Nat,
 (
  w38.cell? { block := b15, off := (3 : Nat) } = some (Value.slice p39 k40 k41)) ∧
 Br ((↑k40 : Int) == (0 : Int))
  (
   LetA (Obj.cells #[Value.int IntKind.i64 (96 : Int)] (3 : Nat)) w38 fun b42 w43 =>
   (
    Wr w43 { block := b15, off := (3 : Nat) }) ∧
   LetW (w43.setCell { block := b15, off := (3 : Nat) } (Value.slice (some { block := b42, off := (0 : Nat) }) (1 : Nat) (1 : Nat))) fun w44 =>
   ∃ p45 : Option Addr,
   ∃ k46 : Nat,
   ∃ k47 : Nat,
   (
    w44.cell? { block := b15, off := (3 : Nat) } = some (Value.slice p45 k46 k47)) ∧
   ∃ I48 : Nat → List Value → World → Prop,
   (
    ∃ k49 : Nat,
    I48 k49 [Value.int IntKind.i64 (0 : Int)] w44) ∧
   ∀ n50 : Int,
   ∀ k51 : Nat,
   ∀ w52 : World,
   (
    I48 k51 [Value.int IntKind.i64 n50] w52) →
   Br (decide (n50 < (↑k46 : Int)))
    (
     ∃ p53 : Option Addr,
     ∃ k54 : Nat,
     ∃ k55 : Nat,
     (
      w52.cell? { block := b15, off := (3 : Nat) } = some (Value.slice p53 k54 k55)) ∧
     NilOk p53 fun a56 =>
     (
      (
       (0 : Int) ≤ n50) ∧
      n50 < (↑k54 : Int)) ∧
     Ca Try.prog (47 : Nat) #[Value.pointer (some (a56.add (n50.toNat * (1 : Nat)))), Value.int IntKind.i64 (96 : Int), Value.int IntKind.i64 (65536 : Int)] w52 fun e57 w58 =>
     (
      e57 = Ending.returned (Value.tuple #[])) ∧
     LetI (IntKind.i64.wrap (n50 + (1 : Int))) fun n59 =>
     ∃ k60 : Nat,
     (
      k60 < k51) ∧
     I48 k60 [Value.int IntKind.i64 n59] w58)
    (
     Ca Try.prog (47 : Nat) #[Value.pointer (some { block := b15, off := (4 : Nat) }), Value.int IntKind.i64 (1 : Int), Value.int IntKind.i64 (16 : Int)] w52 fun e61 w62 =>
     (
      e61 = Ending.returned (Value.tuple #[])) ∧
     Ca Try.prog (47 : Nat) #[Value.pointer (some { block := b15, off := (5 : Nat) }), Value.int IntKind.i64 (1 : Int), Value.int IntKind.i64 (16 : Int)] w62 fun e63 w64 =>
     (
      e63 = Ending.returned (Value.tuple #[])) ∧
     Ca Try.prog (47 : Nat) #[Value.pointer (some { block := b15, off := (6 : Nat) }), Value.int IntKind.i64 (1 : Int), Value.int IntKind.i64 (16 : Int)] w64 fun e65 w66 =>
     (
      e65 = Ending.returned (Value.tuple #[])) ∧
     Ca Try.prog (47 : Nat) #[Value.pointer (some { block := b15, off := (7 : Nat) }), Value.int IntKind.i64 (4 : Int), Value.int IntKind.i64 (64 : Int)] w66 fun e67 w68 =>
     (
      e67 = Ending.returned (Value.tuple #[])) ∧
     Ca Try.prog (47 : Nat) #[Value.pointer (some { block := b15, off := (8 : Nat) }), Value.int IntKind.i64 (4 : Int), Value.int IntKind.i64 (64 : Int)] w68 fun e69 w70 =>
     (
      e69 = Ending.returned (Value.tuple #[])) ∧
     Ca Try.prog (47 : Nat) #[Value.pointer (some { block := b15, off := (9 : Nat) }), Value.int IntKind.i64 (4 : Int), Value.int IntKind.i64 (64 : Int)] w70 fun e71 w72 =>
     (
      e71 = Ending.returned (Value.tuple #[])) ∧
     Ca Try.prog (47 : Nat) #[Value.pointer (some { block := b15, off := (10 : Nat) }), Value.int IntKind.i64 (0 : Int), Value.int IntKind.i64 (16 : Int)] w72 fun e73 w74 =>
     (
      e73 = Ending.returned (Value.tuple #[])) ∧
     Ca Try.prog (47 : Nat) #[Value.pointer (some { block := b15, off := (11 : Nat) }), Value.int IntKind.i64 (1 : Int), Value.int IntKind.i64 (1099511627776 : Int)] w74 fun e75 w76 =>
     (
      e75 = Ending.returned (Value.tuple #[])) ∧
     ∃ n77 : Int,
     ∃ n78 : Int,
     ∃ n79 : Int,
     ∃ p80 : Option Addr,
     ∃ k81 : Nat,
     ∃ k82 : Nat,
     ∃ n83 : Int,
     ∃ n84 : Int,
     ∃ n85 : Int,
     ∃ n86 : Int,
     ∃ n87 : Int,
     ∃ n88 : Int,
     ∃ n89 : Int,
     ∃ n90 : Int,
     (
      Row w76 { block := b15, off := (0 : Nat) } (0 : Nat) [Value.int IntKind.i64 n77, Value.int IntKind.i64 n78, Value.int IntKind.i64 n79, Value.slice p80 k81 k82, Value.int IntKind.i64 n83, Value.int IntKind.i64 n84, Value.int IntKind.i64 n85, Value.int IntKind.i64 n86, Value.int IntKind.i64 n87, Value.int IntKind.i64 n88, Value.int IntKind.i64 n89, Value.int IntKind.i64 n90]) ∧
     (
      WrRow w76 { block := b17, off := (0 : Nat) } (0 : Nat) [Value.int IntKind.i64 n77, Value.int IntKind.i64 n78, Value.int IntKind.i64 n79, Value.slice p80 k81 k82, Value.int IntKind.i64 n83, Value.int IntKind.i64 n84, Value.int IntKind.i64 n85, Value.int IntKind.i64 n86, Value.int IntKind.i64 n87, Value.int IntKind.i64 n88, Value.int IntKind.i64 n89, Value.int IntKind.i64 n90]) ∧
     LetW (setRow w76 { block := b17, off := (0 : Nat) } (0 : Nat) [Value.int IntKind.i64 n77, Value.int IntKind.i64 n78, Value.int IntKind.i64 n79, Value.slice p80 k81 k82, Value.int IntKind.i64 n83, Value.int IntKind.i64 n84, Value.int IntKind.i64 n85, Value.int IntKind.i64 n86, Value.int IntKind.i64 n87, Value.int IntKind.i64 n88, Value.int IntKind.i64 n89, Value.int IntKind.i64 n90]) fun w91 =>
     ∃ n92 : Int,
     ∃ n93 : Int,
     ∃ n94 : Int,
     ∃ p95 : Option Addr,
     ∃ k96 : Nat,
     ∃ k97 : Nat,
     ∃ n98 : Int,
     ∃ n99 : Int,
     ∃ n100 : Int,
     ∃ n101 : Int,
     ∃ n102 : Int,
     ∃ n103 : Int,
     ∃ n104 : Int,
     ∃ n105 : Int,
     (
      Row w91 { block := b17, off := (0 : Nat) } (0 : Nat) [Value.int IntKind.i64 n92, Value.int IntKind.i64 n93, Value.int IntKind.i64 n94, Value.slice p95 k96 k97, Value.int IntKind.i64 n98, Value.int IntKind.i64 n99, Value.int IntKind.i64 n100, Value.int IntKind.i64 n101, Value.int IntKind.i64 n102, Value.int IntKind.i64 n103, Value.int IntKind.i64 n104, Value.int IntKind.i64 n105]) ∧
     R (Ending.returned (Value.agg #[Value.int IntKind.i64 n92, Value.int IntKind.i64 n93, Value.int IntKind.i64 n94, Value.slice p95 k96 k97, Value.int IntKind.i64 n98, Value.int IntKind.i64 n99, Value.int IntKind.i64 n100, Value.int IntKind.i64 n101, Value.int IntKind.i64 n102, Value.int IntKind.i64 n103, Value.int IntKind.i64 n104, Value.int IntKind.i64 n105])) w91))
  (
   ∃ p106 : Option Addr,
   ∃ k107 : Nat,
   ∃ k108 : Nat,
   (
    w38.cell? { block := b15, off := (3 : Nat) } = some (Value.slice p106 k107 k108)) ∧
   ∃ I109 : Nat → List Value → World → Prop,
   (
    ∃ k110 : Nat,
    I109 k110 [Value.int IntKind.i64 (0 : Int)] w38) ∧
   ∀ n111 : Int,
   ∀ k112 : Nat,
   ∀ w113 : World,
   (
    I109 k112 [Value.int IntKind.i64 n111] w113) →
   Br (decide (n111 < (↑k107 : Int)))
    (
     ∃ p114 : Option Addr,
     ∃ k115 : Nat,
     ∃ k116 : Nat,
     (
      w113.cell? { block := b15, off := (3 : Nat) } = some (Value.slice p114 k115 k116)) ∧
     NilOk p114 fun a117 =>
     (
      (
       (0 : Int) ≤ n111) ∧
      n111 < (↑k115 : Int)) ∧
     Ca Try.prog (47 : Nat) #[Value.pointer (some (a117.add (n111.toNat * (1 : Nat)))), Value.int IntKind.i64 (96 : Int), Value.int IntKind.i64 (65536 : Int)] w113 fun e118 w119 =>
     (
      e118 = Ending.returned (Value.tuple #[])) ∧
     LetI (IntKind.i64.wrap (n111 + (1 : Int))) fun n120 =>
     ∃ k121 : Nat,
     (
      k121 < k112) ∧
     I109 k121 [Value.int IntKind.i64 n120] w119)
    (
     Ca Try.prog (47 : Nat) #[Value.pointer (some { block := b15, off := (4 : Nat) }), Value.int IntKind.i64 (1 : Int), Value.int IntKind.i64 (16 : Int)] w113 fun e122 w123 =>
     (
      e122 = Ending.returned (Value.tuple #[])) ∧
     Ca Try.prog (47 : Nat) #[Value.pointer (some { block := b15, off := (5 : Nat) }), Value.int IntKind.i64 (1 : Int), Value.int IntKind.i64 (16 : Int)] w123 fun e124 w125 =>
     (
      e124 = Ending.returned (Value.tuple #[])) ∧
     Ca Try.prog (47 : Nat) #[Value.pointer (some { block := b15, off := (6 : Nat) }), Value.int IntKind.i64 (1 : Int), Value.int IntKind.i64 (16 : Int)] w125 fun e126 w127 =>
     (
      e126 = Ending.returned (Value.tuple #[])) ∧
     Ca Try.prog (47 : Nat) #[Value.pointer (some { block := b15, off := (7 : Nat) }), Value.int IntKind.i64 (4 : Int), Value.int IntKind.i64 (64 : Int)] w127 fun e128 w129 =>
     (
      e128 = Ending.returned (Value.tuple #[])) ∧
     Ca Try.prog (47 : Nat) #[Value.pointer (some { block := b15, off := (8 : Nat) }), Value.int IntKind.i64 (4 : Int), Value.int IntKind.i64 (64 : Int)] w129 fun e130 w131 =>
     (
      e130 = Ending.returned (Value.tuple #[])) ∧
     Ca Try.prog (47 : Nat) #[Value.pointer (some { block := b15, off := (9 : Nat) }), Value.int IntKind.i64 (4 : Int), Value.int IntKind.i64 (64 : Int)] w131 fun e132 w133 =>
     (
      e132 = Ending.returned (Value.tuple #[])) ∧
     Ca Try.prog (47 : Nat) #[Value.pointer (some { block := b15, off := (10 : Nat) }), Value.int IntKind.i64 (0 : Int), Value.int IntKind.i64 (16 : Int)] w133 fun e134 w135 =>
     (
      e134 = Ending.returned (Value.tuple #[])) ∧
     Ca Try.prog (47 : Nat) #[Value.pointer (some { block := b15, off := (11 : Nat) }), Value.int IntKind.i64 (1 : Int), Value.int IntKind.i64 (1099511627776 : Int)] w135 fun e136 w137 =>
     (
      e136 = Ending.returned (Value.tuple #[])) ∧
     ∃ n138 : Int,
     ∃ n139 : Int,
     ∃ n140 : Int,
     ∃ p141 : Option Addr,
     ∃ k142 : Nat,
     ∃ k143 : Nat,
     ∃ n144 : Int,
     ∃ n145 : Int,
     ∃ n146 : Int,
     ∃ n147 : Int,
     ∃ n148 : Int,
     ∃ n149 : Int,
     ∃ n150 : Int,
     ∃ n151 : Int,
     (
      Row w137 { block := b15, off := (0 : Nat) } (0 : Nat) [Value.int IntKind.i64 n138, Value.int IntKind.i64 n139, Value.int IntKind.i64 n140, Value.slice p141 k142 k143, Value.int IntKind.i64 n144, Value.int IntKind.i64 n145, Value.int IntKind.i64 n146, Value.int IntKind.i64 n147, Value.int IntKind.i64 n148, Value.int IntKind.i64 n149, Value.int IntKind.i64 n150, Value.int IntKind.i64 n151]) ∧
     (
      WrRow w137 { block := b17, off := (0 : Nat) } (0 : Nat) [Value.int IntKind.i64 n138, Value.int IntKind.i64 n139, Value.int IntKind.i64 n140, Value.slice p141 k142 k143, Value.int IntKind.i64 n144, Value.int IntKind.i64 n145, Value.int IntKind.i64 n146, Value.int IntKind.i64 n147, Value.int IntKind.i64 n148, Value.int IntKind.i64 n149, Value.int IntKind.i64 n150, Value.int IntKind.i64 n151]) ∧
     LetW (setRow w137 { block := b17, off := (0 : Nat) } (0 : Nat) [Value.int IntKind.i64 n138, Value.int IntKind.i64 n139, Value.int IntKind.i64 n140, Value.slice p141 k142 k143, Value.int IntKind.i64 n144, Value.int IntKind.i64 n145, Value.int IntKind.i64 n146, Value.int IntKind.i64 n147, Value.int IntKind.i64 n148, Value.int IntKind.i64 n149, Value.int IntKind.i64 n150, Value.int IntKind.i64 n151]) fun w152 =>
     ∃ n153 : Int,
     ∃ n154 : Int,
     ∃ n155 : Int,
     ∃ p156 : Option Addr,
     ∃ k157 : Nat,
     ∃ k158 : Nat,
     ∃ n159 : Int,
     ∃ n160 : Int,
     ∃ n161 : Int,
     ∃ n162 : Int,
     ∃ n163 : Int,
     ∃ n164 : Int,
     ∃ n165 : Int,
     ∃ n166 : Int,
     (
      Row w152 { block := b17, off := (0 : Nat) } (0 : Nat) [Value.int IntKind.i64 n153, Value.int IntKind.i64 n154, Value.int IntKind.i64 n155, Value.slice p156 k157 k158, Value.int IntKind.i64 n159, Value.int IntKind.i64 n160, Value.int IntKind.i64 n161, Value.int IntKind.i64 n162, Value.int IntKind.i64 n163, Value.int IntKind.i64 n164, Value.int IntKind.i64 n165, Value.int IntKind.i64 n166]) ∧
     R (Ending.returned (Value.agg #[Value.int IntKind.i64 n153, Value.int IntKind.i64 n154, Value.int IntKind.i64 n155, Value.slice p156 k157 k158, Value.int IntKind.i64 n159, Value.int IntKind.i64 n160, Value.int IntKind.i64 n161, Value.int IntKind.i64 n162, Value.int IntKind.i64 n163, Value.int IntKind.i64 n164, Value.int IntKind.i64 n165, Value.int IntKind.i64 n166])) w152))
theorem sfit_ok (n1 : Int) (n2 : Int) (n3 : Int) (p4 : Option Addr) (k5 : Nat) (k6 : Nat) (n7 : Int) (n8 : Int) (n9 : Int) (n10 : Int) (n11 : Int) (n12 : Int) (n13 : Int) (n14 : Int) (w : World) (R : Ending → World → Prop) (h : sfit n1 n2 n3 p4 k5 k6 n7 n8 n9 n10 n11 n12 n13 n14 w R) : Ca Try.prog 13 #[Value.agg #[Value.int IntKind.i64 n1, Value.int IntKind.i64 n2, Value.int IntKind.i64 n3, Value.slice p4 k5 k6, Value.int IntKind.i64 n7, Value.int IntKind.i64 n8, Value.int IntKind.i64 n9, Value.int IntKind.i64 n10, Value.int IntKind.i64 n11, Value.int IntKind.i64 n12, Value.int IntKind.i64 n13, Value.int IntKind.i64 n14]] w R :=
  Ca.of_fvc (c := bodyOf Try.f13) (by kernel_rfl) Try.func13 (by kernel_rfl) [] (Eq.mp (by kernel_rfl) h)

def sfit1 (a1 : Addr) (n2 : Int) (n3 : Int) (w : World) (R : Ending → World → Prop) : Prop :=
 ∃ n4 : Int,
 (
  w.cell? a1 = some (Value.int IntKind.i64 n4)) ∧
 Ca Try.prog (48 : Nat) #[Value.int IntKind.i64 n4, Value.int IntKind.i64 n2, Value.int IntKind.i64 n3] w fun e5 w6 =>
 ∃ n7 : Int,
 (
  e5 = Ending.returned (Value.int IntKind.i64 n7)) ∧
 (
  Wr w6 a1) ∧
 LetW (w6.setCell a1 (Value.int IntKind.i64 n7)) fun w8 =>
 R (Ending.returned (Value.tuple #[])) w8
theorem sfit1_ok (a1 : Addr) (n2 : Int) (n3 : Int) (w : World) (R : Ending → World → Prop) (h : sfit1 a1 n2 n3 w R) : Ca Try.prog 47 #[Value.pointer (some a1), Value.int IntKind.i64 n2, Value.int IntKind.i64 n3] w R :=
  Ca.of_fvc (c := bodyOf Try.f47) (by kernel_rfl) Try.func47 (by kernel_rfl) [] (Eq.mp (by kernel_rfl) h)

def clamp (n1 : Int) (n2 : Int) (n3 : Int) (w : World) (R : Ending → World → Prop) : Prop :=
 LetI (min n1 n3) fun n4 =>
 LetI (max n2 n4) fun n5 =>
 R (Ending.returned (Value.int IntKind.i64 n5)) w
theorem clamp_ok (n1 : Int) (n2 : Int) (n3 : Int) (w : World) (R : Ending → World → Prop) (h : clamp n1 n2 n3 w R) : Ca Try.prog 48 #[Value.int IntKind.i64 n1, Value.int IntKind.i64 n2, Value.int IntKind.i64 n3] w R :=
  Ca.of_fvc (c := bodyOf Try.f48) (by kernel_rfl) Try.func48 (by kernel_rfl) [] (Eq.mp (by kernel_rfl) h)

def iclone (p1 : Option Addr) (k2 : Nat) (k3 : Nat) (w : World) (R : Ending → World → Prop) : Prop :=
 Br (p1.isNone)
  (
   R (Ending.returned (Value.slice none (0 : Nat) (0 : Nat))) w)
  (
   LetA (Obj.cells #[] (3 : Nat)) w fun b4 w5 =>
   RunsV Try.prog (Builtin.append_ #[(22 : Nat), (22 : Nat)] (22 : Nat) #[Value.slice (some { block := b4, off := (0 : Nat) }) (0 : Nat) (0 : Nat), Value.slice p1 k2 k3]) w5 fun v6 w7 =>
   ∃ p8 : Option Addr,
   ∃ k9 : Nat,
   ∃ k10 : Nat,
   (
    v6 = Value.slice p8 k9 k10) ∧
   R (Ending.returned (Value.slice p8 k9 k10)) w7)
theorem iclone_ok (p1 : Option Addr) (k2 : Nat) (k3 : Nat) (w : World) (R : Ending → World → Prop) (h : iclone p1 k2 k3 w R) : Ca Try.prog 49 #[Value.slice p1 k2 k3] w R :=
  Ca.of_fvc (c := bodyOf Try.f49) (by kernel_rfl) Try.func49 (by kernel_rfl) [] (Eq.mp (by kernel_rfl) h)

def rnear (n1 : Int) (n2 : Int) (n3 : Int) (w : World) (R : Ending → World → Prop) : Prop :=
 LetI (min n1 n3) fun n4 =>
 LetI (max n2 n4) fun n5 =>
 R (Ending.returned (Value.int IntKind.i64 n5)) w
theorem rnear_ok (n1 : Int) (n2 : Int) (n3 : Int) (w : World) (R : Ending → World → Prop) (h : rnear n1 n2 n3 w R) : Ca Try.prog 50 #[Value.int IntKind.i64 n1, Value.int IntKind.i64 n2, Value.int IntKind.i64 n3] w R :=
  Ca.of_fvc (c := bodyOf Try.f50) (by kernel_rfl) Try.func50 (by kernel_rfl) [] (Eq.mp (by kernel_rfl) h)

def ssame (n1 : Int) (n2 : Int) (n3 : Int) (p4 : Option Addr) (k5 : Nat) (k6 : Nat) (n7 : Int) (n8 : Int) (n9 : Int) (n10 : Int) (n11 : Int) (n12 : Int) (n13 : Int) (n14 : Int) (n15 : Int) (n16 : Int) (n17 : Int) (p18 : Option Addr) (k19 : Nat) (k20 : Nat) (n21 : Int) (n22 : Int) (n23 : Int) (n24 : Int) (n25 : Int) (n26 : Int) (n27 : Int) (n28 : Int) (w : World) (R : Ending → World → Prop) : Prop :=
 LetA (Obj.cells #[Value.int IntKind.i64 n1, Value.int IntKind.i64 n2, Value.int IntKind.i64 n3, Value.slice p4 k5 k6, Value.int IntKind.i64 n7, Value.int IntKind.i64 n8, Value.int IntKind.i64 n9, Value.int IntKind.i64 n10, Value.int IntKind.i64 n11, Value.int IntKind.i64 n12, Value.int IntKind.i64 n13, Value.int IntKind.i64 n14] (24 : Nat)) w fun b29 w30 =>
 LetA (Obj.cells #[Value.int IntKind.i64 n15, Value.int IntKind.i64 n16, Value.int IntKind.i64 n17, Value.slice p18 k19 k20, Value.int IntKind.i64 n21, Value.int IntKind.i64 n22, Value.int IntKind.i64 n23, Value.int IntKind.i64 n24, Value.int IntKind.i64 n25, Value.int IntKind.i64 n26, Value.int IntKind.i64 n27, Value.int IntKind.i64 n28] (24 : Nat)) w30 fun b31 w32 =>
 ∃ p33 : Option Addr,
 ∃ k34 : Nat,
 ∃ k35 : Nat,
 (
  w32.cell? { block := b29, off := (3 : Nat) } = some (Value.slice p33 k34 k35)) ∧
 ∃ p36 : Option Addr,
 ∃ k37 : Nat,
 ∃ k38 : Nat,
 (
  w32.cell? { block := b31, off := (3 : Nat) } = some (Value.slice p36 k37 k38)) ∧
 Ca Try.prog (84 : Nat) #[Value.slice p33 k34 k35, Value.slice p36 k37 k38] w32 fun e39 w40 =>
 ∃ b41 : Bool,
 (
  e39 = Ending.returned (Value.bool b41)) ∧
 Br (!b41)
  (
   R (Ending.returned (Value.bool false)) w40)
  (
   ∃ n42 : Int,
   ∃ n43 : Int,
   ∃ n44 : Int,
   ∃ p45 : Option Addr,
   ∃ k46 : Nat,
   ∃ k47 : Nat,
   ∃ n48 : Int,
   ∃ n49 : Int,
   ∃ n50 : Int,
   ∃ n51 : Int,
   ∃ n52 : Int,
   ∃ n53 : Int,
   ∃ n54 : Int,
   ∃ n55 : Int,
   (
    Row w40 { block := b29, off := (0 : Nat) } (0 : Nat) [Value.int IntKind.i64 n42, Value.int IntKind.i64 n43, Value.int IntKind.i64 n44, Value.slice p45 k46 k47, Value.int IntKind.i64 n48, Value.int IntKind.i64 n49, Value.int IntKind.i64 n50, Value.int IntKind.i64 n51, Value.int IntKind.i64 n52, Value.int IntKind.i64 n53, Value.int IntKind.i64 n54, Value.int IntKind.i64 n55]) ∧
   ∃ n56 : Int,
   ∃ n57 : Int,
   ∃ n58 : Int,
   ∃ p59 : Option Addr,
   ∃ k60 : Nat,
   ∃ k61 : Nat,
   ∃ n62 : Int,
   ∃ n63 : Int,
   ∃ n64 : Int,
   ∃ n65 : Int,
   ∃ n66 : Int,
   ∃ n67 : Int,
   ∃ n68 : Int,
   ∃ n69 : Int,
   (
    Row w40 { block := b31, off := (0 : Nat) } (0 : Nat) [Value.int IntKind.i64 n56, Value.int IntKind.i64 n57, Value.int IntKind.i64 n58, Value.slice p59 k60 k61, Value.int IntKind.i64 n62, Value.int IntKind.i64 n63, Value.int IntKind.i64 n64, Value.int IntKind.i64 n65, Value.int IntKind.i64 n66, Value.int IntKind.i64 n67, Value.int IntKind.i64 n68, Value.int IntKind.i64 n69]) ∧
   Ca Try.prog (85 : Nat) #[Value.agg #[Value.int IntKind.i64 n42, Value.int IntKind.i64 n43, Value.int IntKind.i64 n44, Value.slice p45 k46 k47, Value.int IntKind.i64 n48, Value.int IntKind.i64 n49, Value.int IntKind.i64 n50, Value.int IntKind.i64 n51, Value.int IntKind.i64 n52, Value.int IntKind.i64 n53, Value.int IntKind.i64 n54, Value.int IntKind.i64 n55]] w40 fun e70 w71 =>
   ∃ n72 : Int,
   ∃ n73 : Int,
   ∃ n74 : Int,
   ∃ n75 : Int,
   ∃ n76 : Int,
   ∃ n77 : Int,
   ∃ n78 : Int,
   ∃ n79 : Int,
   ∃ n80 : Int,
   ∃ n81 : Int,
   ∃ n82 : Int,
   (
    e70 = Ending.returned (Value.agg #[Value.int IntKind.i64 n72, Value.int IntKind.i64 n73, Value.int IntKind.i64 n74, Value.int IntKind.i64 n75, Value.int IntKind.i64 n76, Value.int IntKind.i64 n77, Value.int IntKind.i64 n78, Value.int IntKind.i64 n79, Value.int IntKind.i64 n80, Value.int IntKind.i64 n81, Value.int IntKind.i64 n82])) ∧
   (
    Row w71 { block := b31, off := (0 : Nat) } (0 : Nat) [Value.int IntKind.i64 n56, Value.int IntKind.i64 n57, Value.int IntKind.i64 n58, Value.slice p59 k60 k61, Value.int IntKind.i64 n62, Value.int IntKind.i64 n63, Value.int IntKind.i64 n64, Value.int IntKind.i64 n65, Value.int IntKind.i64 n66, Value.int IntKind.i64 n67, Value.int IntKind.i64 n68, Value.int IntKind.i64 n69]) ∧
   Ca Try.prog (85 : Nat) #[Value.agg #[Value.int IntKind.i64 n56, Value.int IntKind.i64 n57, Value.int IntKind.i64 n58, Value.slice p59 k60 k61, Value.int IntKind.i64 n62, Value.int IntKind.i64 n63, Value.int IntKind.i64 n64, Value.int IntKind.i64 n65, Value.int IntKind.i64 n66, Value.int IntKind.i64 n67, Value.int IntKind.i64 n68, Value.int IntKind.i64 n69]] w71 fun e83 w84 =>
   ∃ n85 : Int,
   ∃ n86 : Int,
   ∃ n87 : Int,
   ∃ n88 : Int,
   ∃ n89 : Int,
   ∃ n90 : Int,
   ∃ n91 : Int,
   ∃ n92 : Int,
   ∃ n93 : Int,
   ∃ n94 : Int,
   ∃ n95 : Int,
   (
    e83 = Ending.returned (Value.agg #[Value.int IntKind.i64 n85, Value.int IntKind.i64 n86, Value.int IntKind.i64 n87, Value.int IntKind.i64 n88, Value.int IntKind.i64 n89, Value.int IntKind.i64 n90, Value.int IntKind.i64 n91, Value.int IntKind.i64 n92, Value.int IntKind.i64 n93, Value.int IntKind.i64 n94, Value.int IntKind.i64 n95])) ∧
   R (Ending.returned (Value.bool (n72 == n85 && (n73 == n86 && (n74 == n87 && (n75 == n88 && (n76 == n89 && (n77 == n90 && (n78 == n91 && (n79 == n92 && (n80 == n93 && (n81 == n94 && (n82 == n95 && true))))))))))))) w84)
theorem ssame_ok (n1 : Int) (n2 : Int) (n3 : Int) (p4 : Option Addr) (k5 : Nat) (k6 : Nat) (n7 : Int) (n8 : Int) (n9 : Int) (n10 : Int) (n11 : Int) (n12 : Int) (n13 : Int) (n14 : Int) (n15 : Int) (n16 : Int) (n17 : Int) (p18 : Option Addr) (k19 : Nat) (k20 : Nat) (n21 : Int) (n22 : Int) (n23 : Int) (n24 : Int) (n25 : Int) (n26 : Int) (n27 : Int) (n28 : Int) (w : World) (R : Ending → World → Prop) (h : ssame n1 n2 n3 p4 k5 k6 n7 n8 n9 n10 n11 n12 n13 n14 n15 n16 n17 p18 k19 k20 n21 n22 n23 n24 n25 n26 n27 n28 w R) : Ca Try.prog 51 #[Value.agg #[Value.int IntKind.i64 n1, Value.int IntKind.i64 n2, Value.int IntKind.i64 n3, Value.slice p4 k5 k6, Value.int IntKind.i64 n7, Value.int IntKind.i64 n8, Value.int IntKind.i64 n9, Value.int IntKind.i64 n10, Value.int IntKind.i64 n11, Value.int IntKind.i64 n12, Value.int IntKind.i64 n13, Value.int IntKind.i64 n14], Value.agg #[Value.int IntKind.i64 n15, Value.int IntKind.i64 n16, Value.int IntKind.i64 n17, Value.slice p18 k19 k20, Value.int IntKind.i64 n21, Value.int IntKind.i64 n22, Value.int IntKind.i64 n23, Value.int IntKind.i64 n24, Value.int IntKind.i64 n25, Value.int IntKind.i64 n26, Value.int IntKind.i64 n27, Value.int IntKind.i64 n28]] w R :=
  Ca.of_fvc (c := bodyOf Try.f51) (by kernel_rfl) Try.func51 (by kernel_rfl) [] (Eq.mp (by kernel_rfl) h)

def rwithin (n1 : Int) (n2 : Int) (n3 : Int) (w : World) (R : Ending → World → Prop) : Prop :=
 Br (decide (n1 ≥ n2))
  (
   R (Ending.returned (Value.bool (decide (n1 ≤ n3)))) w)
  (
   R (Ending.returned (Value.bool false)) w)
theorem rwithin_ok (n1 : Int) (n2 : Int) (n3 : Int) (w : World) (R : Ending → World → Prop) (h : rwithin n1 n2 n3 w R) : Ca Try.prog 52 #[Value.int IntKind.i64 n1, Value.int IntKind.i64 n2, Value.int IntKind.i64 n3] w R :=
  Ca.of_fvc (c := bodyOf Try.f52) (by kernel_rfl) Try.func52 (by kernel_rfl) [] (Eq.mp (by kernel_rfl) h)

def iequal (p1 : Option Addr) (k2 : Nat) (_k3 : Nat) (p4 : Option Addr) (k5 : Nat) (_k6 : Nat) (w : World) (R : Ending → World → Prop) : Prop :=
 Br ((↑k2 : Int) != (↑k5 : Int))
  (
   R (Ending.returned (Value.bool false)) w)
  (
   ∃ I7 : Nat → List Value → World → Prop,
   (
    ∃ k8 : Nat,
    I7 k8 [Value.bool false, Value.int IntKind.i64 (0 : Int)] w) ∧
   ∀ b9 : Bool,
   ∀ n10 : Int,
   ∀ k11 : Nat,
   ∀ w12 : World,
   (
    I7 k11 [Value.bool b9, Value.int IntKind.i64 n10] w12) →
   Br (decide (n10 < (↑k2 : Int)))
    (
     NilOk p1 fun a13 =>
     (
      (
       (0 : Int) ≤ n10) ∧
      n10 < (↑k2 : Int)) ∧
     ∃ n14 : Int,
     (
      w12.cell? (a13.add (n10.toNat * (1 : Nat))) = some (Value.int IntKind.i64 n14)) ∧
     NilOk p4 fun a15 =>
     (
      (
       (0 : Int) ≤ n10) ∧
      n10 < (↑k5 : Int)) ∧
     ∃ n16 : Int,
     (
      w12.cell? (a15.add (n10.toNat * (1 : Nat))) = some (Value.int IntKind.i64 n16)) ∧
     Br (n14 != n16)
      (
       R (Ending.returned (Value.bool false)) w12)
      (
       LetI (IntKind.i64.wrap (n10 + (1 : Int))) fun n17 =>
       ∃ k18 : Nat,
       (
        k18 < k11) ∧
       I7 k18 [Value.bool b9, Value.int IntKind.i64 n17] w12))
    (
     R (Ending.returned (Value.bool true)) w12))
theorem iequal_ok (p1 : Option Addr) (k2 : Nat) (k3 : Nat) (p4 : Option Addr) (k5 : Nat) (k6 : Nat) (w : World) (R : Ending → World → Prop) (h : iequal p1 k2 k3 p4 k5 k6 w R) : Ca Try.prog 84 #[Value.slice p1 k2 k3, Value.slice p4 k5 k6] w R :=
  Ca.of_fvc (c := bodyOf Try.f84) (by kernel_rfl) Try.func84 (by kernel_rfl) [] (Eq.mp (by kernel_rfl) h)

def ssame1 (n1 : Int) (n2 : Int) (n3 : Int) (p4 : Option Addr) (k5 : Nat) (k6 : Nat) (n7 : Int) (n8 : Int) (n9 : Int) (n10 : Int) (n11 : Int) (n12 : Int) (n13 : Int) (n14 : Int) (w : World) (R : Ending → World → Prop) : Prop :=
 LetA (Obj.cells #[Value.int IntKind.i64 n1, Value.int IntKind.i64 n2, Value.int IntKind.i64 n3, Value.slice p4 k5 k6, Value.int IntKind.i64 n7, Value.int IntKind.i64 n8, Value.int IntKind.i64 n9, Value.int IntKind.i64 n10, Value.int IntKind.i64 n11, Value.int IntKind.i64 n12, Value.int IntKind.i64 n13, Value.int IntKind.i64 n14] (24 : Nat)) w fun b15 w16 =>
 LetA (Obj.cells #[Value.int IntKind.i64 (0 : Int), Value.int IntKind.i64 (0 : Int), Value.int IntKind.i64 (0 : Int), Value.int IntKind.i64 (0 : Int), Value.int IntKind.i64 (0 : Int), Value.int IntKind.i64 (0 : Int), Value.int IntKind.i64 (0 : Int), Value.int IntKind.i64 (0 : Int), Value.int IntKind.i64 (0 : Int), Value.int IntKind.i64 (0 : Int), Value.int IntKind.i64 (0 : Int)] (128 : Nat)) w16 fun b17 w18 =>
 ∃ n19 : Int,
 (
  w18.cell? { block := b15, off := (0 : Nat) } = some (Value.int IntKind.i64 n19)) ∧
 ∃ n20 : Int,
 (
  w18.cell? { block := b15, off := (1 : Nat) } = some (Value.int IntKind.i64 n20)) ∧
 ∃ n21 : Int,
 (
  w18.cell? { block := b15, off := (2 : Nat) } = some (Value.int IntKind.i64 n21)) ∧
 ∃ n22 : Int,
 (
  w18.cell? { block := b15, off := (4 : Nat) } = some (Value.int IntKind.i64 n22)) ∧
 ∃ n23 : Int,
 (
  w18.cell? { block := b15, off := (5 : Nat) } = some (Value.int IntKind.i64 n23)) ∧
 ∃ n24 : Int,
 (
  w18.cell? { block := b15, off := (6 : Nat) } = some (Value.int IntKind.i64 n24)) ∧
 ∃ n25 : Int,
 (
  w18.cell? { block := b15, off := (7 : Nat) } = some (Value.int IntKind.i64 n25)) ∧
 ∃ n26 : Int,
 (
  w18.cell? { block := b15, off := (8 : Nat) } = some (Value.int IntKind.i64 n26)) ∧
 ∃ n27 : Int,
 (
  w18.cell? { block := b15, off := (9 : Nat) } = some (Value.int IntKind.i64 n27)) ∧
 ∃ n28 : Int,
 (
  w18.cell? { block := b15, off := (10 : Nat) } = some (Value.int IntKind.i64 n28)) ∧
 ∃ n29 : Int,
 (
  w18.cell? { block := b15, off := (11 : Nat) } = some (Value.int IntKind.i64 n29)) ∧
 (
  WrRow w18 { block := b17, off := (0 : Nat) } (0 : Nat) [Value.int IntKind.i64 n19, Value.int IntKind.i64 n20, Value.int IntKind.i64 n21, Value.int IntKind.i64 n22, Value.int IntKind.i64 n23, Value.int IntKind.i64 n24, Value.int IntKind.i64 n25, Value.int IntKind.i64 n26, Value.int IntKind.i64 n27, Value.int IntKind.i64 n28, Value.int IntKind.i64 n29]) ∧
 LetW (setRow w18 { block := b17, off := (0 : Nat) } (0 : Nat) [Value.int IntKind.i64 n19, Value.int IntKind.i64 n20, Value.int IntKind.i64 n21, Value.int IntKind.i64 n22, Value.int IntKind.i64 n23, Value.int IntKind.i64 n24, Value.int IntKind.i64 n25, Value.int IntKind.i64 n26, Value.int IntKind.i64 n27, Value.int IntKind.i64 n28, Value.int IntKind.i64 n29]) fun w30 =>
 ∃ n31 : Int,
 ∃ n32 : Int,
 ∃ n33 : Int,
 ∃ n34 : Int,
 ∃ n35 : Int,
 ∃ n36 : Int,
 ∃ n37 : Int,
 ∃ n38 : Int,
 ∃ n39 : Int,
 ∃ n40 : Int,
 ∃ n41 : Int,
 (
  Row w30 { block := b17, off := (0 : Nat) } (0 : Nat) [Value.int IntKind.i64 n31, Value.int IntKind.i64 n32, Value.int IntKind.i64 n33, Value.int IntKind.i64 n34, Value.int IntKind.i64 n35, Value.int IntKind.i64 n36, Value.int IntKind.i64 n37, Value.int IntKind.i64 n38, Value.int IntKind.i64 n39, Value.int IntKind.i64 n40, Value.int IntKind.i64 n41]) ∧
 R (Ending.returned (Value.agg #[Value.int IntKind.i64 n31, Value.int IntKind.i64 n32, Value.int IntKind.i64 n33, Value.int IntKind.i64 n34, Value.int IntKind.i64 n35, Value.int IntKind.i64 n36, Value.int IntKind.i64 n37, Value.int IntKind.i64 n38, Value.int IntKind.i64 n39, Value.int IntKind.i64 n40, Value.int IntKind.i64 n41])) w30
theorem ssame1_ok (n1 : Int) (n2 : Int) (n3 : Int) (p4 : Option Addr) (k5 : Nat) (k6 : Nat) (n7 : Int) (n8 : Int) (n9 : Int) (n10 : Int) (n11 : Int) (n12 : Int) (n13 : Int) (n14 : Int) (w : World) (R : Ending → World → Prop) (h : ssame1 n1 n2 n3 p4 k5 k6 n7 n8 n9 n10 n11 n12 n13 n14 w R) : Ca Try.prog 85 #[Value.agg #[Value.int IntKind.i64 n1, Value.int IntKind.i64 n2, Value.int IntKind.i64 n3, Value.slice p4 k5 k6, Value.int IntKind.i64 n7, Value.int IntKind.i64 n8, Value.int IntKind.i64 n9, Value.int IntKind.i64 n10, Value.int IntKind.i64 n11, Value.int IntKind.i64 n12, Value.int IntKind.i64 n13, Value.int IntKind.i64 n14]] w R :=
  Ca.of_fvc (c := bodyOf Try.f85) (by kernel_rfl) Try.func85 (by kernel_rfl) [] (Eq.mp (by kernel_rfl) h)

def scheck (n1 : Int) (n2 : Int) (n3 : Int) (p4 : Option Addr) (k5 : Nat) (k6 : Nat) (n7 : Int) (n8 : Int) (n9 : Int) (n10 : Int) (n11 : Int) (n12 : Int) (n13 : Int) (n14 : Int) (w : World) (R : Ending → World → Prop) : Prop :=
 LetA (Obj.cells #[Value.int IntKind.i64 n1, Value.int IntKind.i64 n2, Value.int IntKind.i64 n3, Value.slice p4 k5 k6, Value.int IntKind.i64 n7, Value.int IntKind.i64 n8, Value.int IntKind.i64 n9, Value.int IntKind.i64 n10, Value.int IntKind.i64 n11, Value.int IntKind.i64 n12, Value.int IntKind.i64 n13, Value.int IntKind.i64 n14] (24 : Nat)) w fun b15 w16 =>
 ∃ n17 : Int,
 ∃ n18 : Int,
 ∃ n19 : Int,
 ∃ p20 : Option Addr,
 ∃ k21 : Nat,
 ∃ k22 : Nat,
 ∃ n23 : Int,
 ∃ n24 : Int,
 ∃ n25 : Int,
 ∃ n26 : Int,
 ∃ n27 : Int,
 ∃ n28 : Int,
 ∃ n29 : Int,
 ∃ n30 : Int,
 (
  Row w16 { block := b15, off := (0 : Nat) } (0 : Nat) [Value.int IntKind.i64 n17, Value.int IntKind.i64 n18, Value.int IntKind.i64 n19, Value.slice p20 k21 k22, Value.int IntKind.i64 n23, Value.int IntKind.i64 n24, Value.int IntKind.i64 n25, Value.int IntKind.i64 n26, Value.int IntKind.i64 n27, Value.int IntKind.i64 n28, Value.int IntKind.i64 n29, Value.int IntKind.i64 n30]) ∧
 ∃ n31 : Int,
 ∃ n32 : Int,
 ∃ n33 : Int,
 ∃ p34 : Option Addr,
 ∃ k35 : Nat,
 ∃ k36 : Nat,
 ∃ n37 : Int,
 ∃ n38 : Int,
 ∃ n39 : Int,
 ∃ n40 : Int,
 ∃ n41 : Int,
 ∃ n42 : Int,
 ∃ n43 : Int,
 ∃ n44 : Int,
 (
  Row w16 { block := b15, off := (0 : Nat) } (0 : Nat) [Value.int IntKind.i64 n31, Value.int IntKind.i64 n32, Value.int IntKind.i64 n33, Value.slice p34 k35 k36, Value.int IntKind.i64 n37, Value.int IntKind.i64 n38, Value.int IntKind.i64 n39, Value.int IntKind.i64 n40, Value.int IntKind.i64 n41, Value.int IntKind.i64 n42, Value.int IntKind.i64 n43, Value.int IntKind.i64 n44]) ∧
 Ca Try.prog (13 : Nat) #[Value.agg #[Value.int IntKind.i64 n31, Value.int IntKind.i64 n32, Value.int IntKind.i64 n33, Value.slice p34 k35 k36, Value.int IntKind.i64 n37, Value.int IntKind.i64 n38, Value.int IntKind.i64 n39, Value.int IntKind.i64 n40, Value.int IntKind.i64 n41, Value.int IntKind.i64 n42, Value.int IntKind.i64 n43, Value.int IntKind.i64 n44]] w16 fun e45 w46 =>
 ∃ n47 : Int,
 ∃ n48 : Int,
 ∃ n49 : Int,
 ∃ p50 : Option Addr,
 ∃ k51 : Nat,
 ∃ k52 : Nat,
 ∃ n53 : Int,
 ∃ n54 : Int,
 ∃ n55 : Int,
 ∃ n56 : Int,
 ∃ n57 : Int,
 ∃ n58 : Int,
 ∃ n59 : Int,
 ∃ n60 : Int,
 (
  e45 = Ending.returned (Value.agg #[Value.int IntKind.i64 n47, Value.int IntKind.i64 n48, Value.int IntKind.i64 n49, Value.slice p50 k51 k52, Value.int IntKind.i64 n53, Value.int IntKind.i64 n54, Value.int IntKind.i64 n55, Value.int IntKind.i64 n56, Value.int IntKind.i64 n57, Value.int IntKind.i64 n58, Value.int IntKind.i64 n59, Value.int IntKind.i64 n60])) ∧
 (
  Row w46 { block := b15, off := (0 : Nat) } (0 : Nat) [Value.int IntKind.i64 n17, Value.int IntKind.i64 n18, Value.int IntKind.i64 n19, Value.slice p20 k21 k22, Value.int IntKind.i64 n23, Value.int IntKind.i64 n24, Value.int IntKind.i64 n25, Value.int IntKind.i64 n26, Value.int IntKind.i64 n27, Value.int IntKind.i64 n28, Value.int IntKind.i64 n29, Value.int IntKind.i64 n30]) ∧
 Ca Try.prog (51 : Nat) #[Value.agg #[Value.int IntKind.i64 n17, Value.int IntKind.i64 n18, Value.int IntKind.i64 n19, Value.slice p20 k21 k22, Value.int IntKind.i64 n23, Value.int IntKind.i64 n24, Value.int IntKind.i64 n25, Value.int IntKind.i64 n26, Value.int IntKind.i64 n27, Value.int IntKind.i64 n28, Value.int IntKind.i64 n29, Value.int IntKind.i64 n30], Value.agg #[Value.int IntKind.i64 n47, Value.int IntKind.i64 n48, Value.int IntKind.i64 n49, Value.slice p50 k51 k52, Value.int IntKind.i64 n53, Value.int IntKind.i64 n54, Value.int IntKind.i64 n55, Value.int IntKind.i64 n56, Value.int IntKind.i64 n57, Value.int IntKind.i64 n58, Value.int IntKind.i64 n59, Value.int IntKind.i64 n60]] w46 fun e61 w62 =>
 ∃ b63 : Bool,
 (
  e61 = Ending.returned (Value.bool b63)) ∧
 Br (!b63)
  (
   R (Ending.returned (Value.int IntKind.i64 (2 : Int))) w62)
  (
   R (Ending.returned (Value.int IntKind.i64 (0 : Int))) w62)
theorem scheck_ok (n1 : Int) (n2 : Int) (n3 : Int) (p4 : Option Addr) (k5 : Nat) (k6 : Nat) (n7 : Int) (n8 : Int) (n9 : Int) (n10 : Int) (n11 : Int) (n12 : Int) (n13 : Int) (n14 : Int) (w : World) (R : Ending → World → Prop) (h : scheck n1 n2 n3 p4 k5 k6 n7 n8 n9 n10 n11 n12 n13 n14 w R) : Ca Try.prog 16 #[Value.agg #[Value.int IntKind.i64 n1, Value.int IntKind.i64 n2, Value.int IntKind.i64 n3, Value.slice p4 k5 k6, Value.int IntKind.i64 n7, Value.int IntKind.i64 n8, Value.int IntKind.i64 n9, Value.int IntKind.i64 n10, Value.int IntKind.i64 n11, Value.int IntKind.i64 n12, Value.int IntKind.i64 n13, Value.int IntKind.i64 n14]] w R :=
  Ca.of_fvc (c := bodyOf Try.f16) (by kernel_rfl) Try.func16 (by kernel_rfl) [] (Eq.mp (by kernel_rfl) h)

def sfirst (n1 : Int) (n2 : Int) (n3 : Int) (p4 : Option Addr) (k5 : Nat) (k6 : Nat) (n7 : Int) (n8 : Int) (n9 : Int) (n10 : Int) (n11 : Int) (n12 : Int) (n13 : Int) (n14 : Int) (w : World) (R : Ending → World → Prop) : Prop :=
 LetA (Obj.cells #[Value.int IntKind.i64 n1, Value.int IntKind.i64 n2, Value.int IntKind.i64 n3, Value.slice p4 k5 k6, Value.int IntKind.i64 n7, Value.int IntKind.i64 n8, Value.int IntKind.i64 n9, Value.int IntKind.i64 n10, Value.int IntKind.i64 n11, Value.int IntKind.i64 n12, Value.int IntKind.i64 n13, Value.int IntKind.i64 n14] (24 : Nat)) w fun b15 w16 =>
 LetA (Obj.cells #[Value.int IntKind.i64 (0 : Int), Value.slice none (0 : Nat) (0 : Nat), Value.int IntKind.i64 (0 : Int)] (32 : Nat)) w16 fun b17 w18 =>
 ∃ n19 : Int,
 ∃ n20 : Int,
 ∃ n21 : Int,
 ∃ p22 : Option Addr,
 ∃ k23 : Nat,
 ∃ k24 : Nat,
 ∃ n25 : Int,
 ∃ n26 : Int,
 ∃ n27 : Int,
 ∃ n28 : Int,
 ∃ n29 : Int,
 ∃ n30 : Int,
 ∃ n31 : Int,
 ∃ n32 : Int,
 (
  Row w18 { block := b15, off := (0 : Nat) } (0 : Nat) [Value.int IntKind.i64 n19, Value.int IntKind.i64 n20, Value.int IntKind.i64 n21, Value.slice p22 k23 k24, Value.int IntKind.i64 n25, Value.int IntKind.i64 n26, Value.int IntKind.i64 n27, Value.int IntKind.i64 n28, Value.int IntKind.i64 n29, Value.int IntKind.i64 n30, Value.int IntKind.i64 n31, Value.int IntKind.i64 n32]) ∧
 Ca Try.prog (16 : Nat) #[Value.agg #[Value.int IntKind.i64 n19, Value.int IntKind.i64 n20, Value.int IntKind.i64 n21, Value.slice p22 k23 k24, Value.int IntKind.i64 n25, Value.int IntKind.i64 n26, Value.int IntKind.i64 n27, Value.int IntKind.i64 n28, Value.int IntKind.i64 n29, Value.int IntKind.i64 n30, Value.int IntKind.i64 n31, Value.int IntKind.i64 n32]] w18 fun e33 w34 =>
 ∃ n35 : Int,
 (
  e33 = Ending.returned (Value.int IntKind.i64 n35)) ∧
 Br (n35 != (0 : Int))
  (
   (
    WrRow w34 { block := b17, off := (0 : Nat) } (0 : Nat) [Value.int IntKind.i64 (0 : Int), Value.slice none (0 : Nat) (0 : Nat), Value.int IntKind.i64 (0 : Int)]) ∧
   LetW (setRow w34 { block := b17, off := (0 : Nat) } (0 : Nat) [Value.int IntKind.i64 (0 : Int), Value.slice none (0 : Nat) (0 : Nat), Value.int IntKind.i64 (0 : Int)]) fun w36 =>
   ∃ n37 : Int,
   ∃ p38 : Option Addr,
   ∃ k39 : Nat,
   ∃ k40 : Nat,
   ∃ n41 : Int,
   (
    Row w36 { block := b17, off := (0 : Nat) } (0 : Nat) [Value.int IntKind.i64 n37, Value.slice p38 k39 k40, Value.int IntKind.i64 n41]) ∧
   R (Ending.returned (Value.tuple #[Value.agg #[Value.int IntKind.i64 n37, Value.slice p38 k39 k40, Value.int IntKind.i64 n41], Value.int IntKind.i64 n35])) w36)
  (
   LetA (Obj.cells #[Value.int IntKind.i64 (0 : Int), Value.slice none (0 : Nat) (0 : Nat), Value.int IntKind.i64 (0 : Int)] (32 : Nat)) w34 fun b42 w43 =>
   (
    WrRow w43 { block := b42, off := (0 : Nat) } (0 : Nat) [Value.int IntKind.i64 (1 : Int), Value.slice none (0 : Nat) (0 : Nat), Value.int IntKind.i64 (-1 : Int)]) ∧
   LetW (setRow w43 { block := b42, off := (0 : Nat) } (0 : Nat) [Value.int IntKind.i64 (1 : Int), Value.slice none (0 : Nat) (0 : Nat), Value.int IntKind.i64 (-1 : Int)]) fun w44 =>
   ∃ n45 : Int,
   (
    w44.cell? { block := b15, off := (1 : Nat) } = some (Value.int IntKind.i64 n45)) ∧
   ∃ I46 : Nat → List Value → World → Prop,
   (
    ∃ k47 : Nat,
    I46 k47 [Value.int IntKind.i64 (0 : Int)] w44) ∧
   ∀ n48 : Int,
   ∀ k49 : Nat,
   ∀ w50 : World,
   (
    I46 k49 [Value.int IntKind.i64 n48] w50) →
   Br (decide (n48 < n45))
    (
     ∃ p51 : Option Addr,
     ∃ k52 : Nat,
     ∃ k53 : Nat,
     (
      w50.cell? { block := b42, off := (1 : Nat) } = some (Value.slice p51 k52 k53)) ∧
     LetA (Obj.cells #[Value.int IntKind.i64 n48, Value.int IntKind.i64 (1 : Int)] (64 : Nat)) w50 fun b54 w55 =>
     RunsV Try.prog (Builtin.append_ #[(30 : Nat), (30 : Nat)] (30 : Nat) #[Value.slice p51 k52 k53, Value.slice (some { block := b54, off := (0 : Nat) }) (1 : Nat) (1 : Nat)]) w55 fun v56 w57 =>
     ∃ p58 : Option Addr,
     ∃ k59 : Nat,
     ∃ k60 : Nat,
     (
      v56 = Value.slice p58 k59 k60) ∧
     (
      Wr w57 { block := b42, off := (1 : Nat) }) ∧
     LetW (w57.setCell { block := b42, off := (1 : Nat) } (Value.slice p58 k59 k60)) fun w61 =>
     LetI (IntKind.i64.wrap (n48 + (1 : Int))) fun n62 =>
     ∃ k63 : Nat,
     (
      k63 < k49) ∧
     I46 k63 [Value.int IntKind.i64 n62] w61)
    (
     ∃ n64 : Int,
     ∃ p65 : Option Addr,
     ∃ k66 : Nat,
     ∃ k67 : Nat,
     ∃ n68 : Int,
     (
      Row w50 { block := b42, off := (0 : Nat) } (0 : Nat) [Value.int IntKind.i64 n64, Value.slice p65 k66 k67, Value.int IntKind.i64 n68]) ∧
     (
      WrRow w50 { block := b17, off := (0 : Nat) } (0 : Nat) [Value.int IntKind.i64 n64, Value.slice p65 k66 k67, Value.int IntKind.i64 n68]) ∧
     LetW (setRow w50 { block := b17, off := (0 : Nat) } (0 : Nat) [Value.int IntKind.i64 n64, Value.slice p65 k66 k67, Value.int IntKind.i64 n68]) fun w69 =>
     ∃ n70 : Int,
     ∃ p71 : Option Addr,
     ∃ k72 : Nat,
     ∃ k73 : Nat,
     ∃ n74 : Int,
     (
      Row w69 { block := b17, off := (0 : Nat) } (0 : Nat) [Value.int IntKind.i64 n70, Value.slice p71 k72 k73, Value.int IntKind.i64 n74]) ∧
     R (Ending.returned (Value.tuple #[Value.agg #[Value.int IntKind.i64 n70, Value.slice p71 k72 k73, Value.int IntKind.i64 n74], Value.int IntKind.i64 (0 : Int)])) w69))
theorem sfirst_ok (n1 : Int) (n2 : Int) (n3 : Int) (p4 : Option Addr) (k5 : Nat) (k6 : Nat) (n7 : Int) (n8 : Int) (n9 : Int) (n10 : Int) (n11 : Int) (n12 : Int) (n13 : Int) (n14 : Int) (w : World) (R : Ending → World → Prop) (h : sfirst n1 n2 n3 p4 k5 k6 n7 n8 n9 n10 n11 n12 n13 n14 w R) : Ca Try.prog 18 #[Value.agg #[Value.int IntKind.i64 n1, Value.int IntKind.i64 n2, Value.int IntKind.i64 n3, Value.slice p4 k5 k6, Value.int IntKind.i64 n7, Value.int IntKind.i64 n8, Value.int IntKind.i64 n9, Value.int IntKind.i64 n10, Value.int IntKind.i64 n11, Value.int IntKind.i64 n12, Value.int IntKind.i64 n13, Value.int IntKind.i64 n14]] w R :=
  Ca.of_fvc (c := bodyOf Try.f18) (by kernel_rfl) Try.func18 (by kernel_rfl) [] (Eq.mp (by kernel_rfl) h)

def rsame (n1 : Int) (n2 : Int) (n3 : Int) (p4 : Option Addr) (k5 : Nat) (k6 : Nat) (n7 : Int) (n8 : Int) (n9 : Int) (n10 : Int) (n11 : Int) (n12 : Int) (n13 : Int) (n14 : Int) (n15 : Int) (n16 : Int) (n17 : Int) (p18 : Option Addr) (k19 : Nat) (k20 : Nat) (n21 : Int) (n22 : Int) (n23 : Int) (n24 : Int) (n25 : Int) (n26 : Int) (n27 : Int) (n28 : Int) (w : World) (R : Ending → World → Prop) : Prop :=
 LetA (Obj.cells #[Value.int IntKind.i64 n1, Value.int IntKind.i64 n2, Value.int IntKind.i64 n3, Value.slice p4 k5 k6, Value.int IntKind.i64 n7, Value.int IntKind.i64 n8, Value.int IntKind.i64 n9, Value.int IntKind.i64 n10, Value.int IntKind.i64 n11, Value.int IntKind.i64 n12, Value.int IntKind.i64 n13, Value.int IntKind.i64 n14] (24 : Nat)) w fun b29 w30 =>
 LetA (Obj.cells #[Value.int IntKind.i64 n15, Value.int IntKind.i64 n16, Value.int IntKind.i64 n17, Value.slice p18 k19 k20, Value.int IntKind.i64 n21, Value.int IntKind.i64 n22, Value.int IntKind.i64 n23, Value.int IntKind.i64 n24, Value.int IntKind.i64 n25, Value.int IntKind.i64 n26, Value.int IntKind.i64 n27, Value.int IntKind.i64 n28] (24 : Nat)) w30 fun b31 w32 =>
 ∃ p33 : Option Addr,
 ∃ k34 : Nat,
 ∃ k35 : Nat,
 (
  w32.cell? { block := b29, off := (3 : Nat) } = some (Value.slice p33 k34 k35)) ∧
 ∃ p36 : Option Addr,
 ∃ k37 : Nat,
 ∃ k38 : Nat,
 (
  w32.cell? { block := b31, off := (3 : Nat) } = some (Value.slice p36 k37 k38)) ∧
 Br ((↑k34 : Int) != (↑k37 : Int))
  (
   R (Ending.returned (Value.bool false)) w32)
  (
   ∃ I39 : Nat → List Value → World → Prop,
   (
    ∃ k40 : Nat,
    I39 k40 [Value.bool false, Value.int IntKind.i64 (0 : Int)] w32) ∧
   ∀ b41 : Bool,
   ∀ n42 : Int,
   ∀ k43 : Nat,
   ∀ w44 : World,
   (
    I39 k43 [Value.bool b41, Value.int IntKind.i64 n42] w44) →
   ∃ p45 : Option Addr,
   ∃ k46 : Nat,
   ∃ k47 : Nat,
   (
    w44.cell? { block := b29, off := (3 : Nat) } = some (Value.slice p45 k46 k47)) ∧
   Br (decide (n42 < (↑k46 : Int)))
    (
     ∃ p48 : Option Addr,
     ∃ k49 : Nat,
     ∃ k50 : Nat,
     (
      w44.cell? { block := b29, off := (3 : Nat) } = some (Value.slice p48 k49 k50)) ∧
     NilOk p48 fun a51 =>
     (
      (
       (0 : Int) ≤ n42) ∧
      n42 < (↑k49 : Int)) ∧
     ∃ n52 : Int,
     (
      w44.cell? (a51.add (n42.toNat * (1 : Nat))) = some (Value.int IntKind.i64 n52)) ∧
     ∃ p53 : Option Addr,
     ∃ k54 : Nat,
     ∃ k55 : Nat,
     (
      w44.cell? { block := b31, off := (3 : Nat) } = some (Value.slice p53 k54 k55)) ∧
     NilOk p53 fun a56 =>
     (
      (
       (0 : Int) ≤ n42) ∧
      n42 < (↑k54 : Int)) ∧
     ∃ n57 : Int,
     (
      w44.cell? (a56.add (n42.toNat * (1 : Nat))) = some (Value.int IntKind.i64 n57)) ∧
     Br (n52 != n57)
      (
       R (Ending.returned (Value.bool false)) w44)
      (
       LetI (IntKind.i64.wrap (n42 + (1 : Int))) fun n58 =>
       ∃ k59 : Nat,
       (
        k59 < k43) ∧
       I39 k59 [Value.bool b41, Value.int IntKind.i64 n58] w44))
    (
     ∃ n60 : Int,
     (
      w44.cell? { block := b29, off := (0 : Nat) } = some (Value.int IntKind.i64 n60)) ∧
     ∃ n61 : Int,
     (
      w44.cell? { block := b31, off := (0 : Nat) } = some (Value.int IntKind.i64 n61)) ∧
     Br (n60 == n61)
      (
       ∃ n62 : Int,
       (
        w44.cell? { block := b29, off := (1 : Nat) } = some (Value.int IntKind.i64 n62)) ∧
       ∃ n63 : Int,
       (
        w44.cell? { block := b31, off := (1 : Nat) } = some (Value.int IntKind.i64 n63)) ∧
       Br (n62 == n63)
        (
         ∃ n64 : Int,
         (
          w44.cell? { block := b29, off := (2 : Nat) } = some (Value.int IntKind.i64 n64)) ∧
         ∃ n65 : Int,
         (
          w44.cell? { block := b31, off := (2 : Nat) } = some (Value.int IntKind.i64 n65)) ∧
         Br (n64 == n65)
          (
           ∃ n66 : Int,
           (
            w44.cell? { block := b29, off := (4 : Nat) } = some (Value.int IntKind.i64 n66)) ∧
           ∃ n67 : Int,
           (
            w44.cell? { block := b31, off := (4 : Nat) } = some (Value.int IntKind.i64 n67)) ∧
           Br (n66 == n67)
            (
             ∃ n68 : Int,
             (
              w44.cell? { block := b29, off := (5 : Nat) } = some (Value.int IntKind.i64 n68)) ∧
             ∃ n69 : Int,
             (
              w44.cell? { block := b31, off := (5 : Nat) } = some (Value.int IntKind.i64 n69)) ∧
             Br (n68 == n69)
              (
               ∃ n70 : Int,
               (
                w44.cell? { block := b29, off := (6 : Nat) } = some (Value.int IntKind.i64 n70)) ∧
               ∃ n71 : Int,
               (
                w44.cell? { block := b31, off := (6 : Nat) } = some (Value.int IntKind.i64 n71)) ∧
               Br (n70 == n71)
                (
                 ∃ n72 : Int,
                 (
                  w44.cell? { block := b29, off := (7 : Nat) } = some (Value.int IntKind.i64 n72)) ∧
                 ∃ n73 : Int,
                 (
                  w44.cell? { block := b31, off := (7 : Nat) } = some (Value.int IntKind.i64 n73)) ∧
                 Br (n72 == n73)
                  (
                   ∃ n74 : Int,
                   (
                    w44.cell? { block := b29, off := (8 : Nat) } = some (Value.int IntKind.i64 n74)) ∧
                   ∃ n75 : Int,
                   (
                    w44.cell? { block := b31, off := (8 : Nat) } = some (Value.int IntKind.i64 n75)) ∧
                   Br (n74 == n75)
                    (
                     ∃ n76 : Int,
                     (
                      w44.cell? { block := b29, off := (9 : Nat) } = some (Value.int IntKind.i64 n76)) ∧
                     ∃ n77 : Int,
                     (
                      w44.cell? { block := b31, off := (9 : Nat) } = some (Value.int IntKind.i64 n77)) ∧
                     Br (n76 == n77)
                      (
                       ∃ n78 : Int,
                       (
                        w44.cell? { block := b29, off := (10 : Nat) } = some (Value.int IntKind.i64 n78)) ∧
                       ∃ n79 : Int,
                       (
                        w44.cell? { block := b31, off := (10 : Nat) } = some (Value.int IntKind.i64 n79)) ∧
                       Br (n78 == n79)
                        (
                         ∃ n80 : Int,
                         (
                          w44.cell? { block := b29, off := (11 : Nat) } = some (Value.int IntKind.i64 n80)) ∧
                         ∃ n81 : Int,
                         (
                          w44.cell? { block := b31, off := (11 : Nat) } = some (Value.int IntKind.i64 n81)) ∧
                         R (Ending.returned (Value.bool (n80 == n81))) w44)
                        (
                         R (Ending.returned (Value.bool false)) w44))
                      (
                       R (Ending.returned (Value.bool false)) w44))
                    (
                     R (Ending.returned (Value.bool false)) w44))
                  (
                   R (Ending.returned (Value.bool false)) w44))
                (
                 R (Ending.returned (Value.bool false)) w44))
              (
               R (Ending.returned (Value.bool false)) w44))
            (
             R (Ending.returned (Value.bool false)) w44))
          (
           R (Ending.returned (Value.bool false)) w44))
        (
         R (Ending.returned (Value.bool false)) w44))
      (
       R (Ending.returned (Value.bool false)) w44)))
theorem rsame_ok (n1 : Int) (n2 : Int) (n3 : Int) (p4 : Option Addr) (k5 : Nat) (k6 : Nat) (n7 : Int) (n8 : Int) (n9 : Int) (n10 : Int) (n11 : Int) (n12 : Int) (n13 : Int) (n14 : Int) (n15 : Int) (n16 : Int) (n17 : Int) (p18 : Option Addr) (k19 : Nat) (k20 : Nat) (n21 : Int) (n22 : Int) (n23 : Int) (n24 : Int) (n25 : Int) (n26 : Int) (n27 : Int) (n28 : Int) (w : World) (R : Ending → World → Prop) (h : rsame n1 n2 n3 p4 k5 k6 n7 n8 n9 n10 n11 n12 n13 n14 n15 n16 n17 p18 k19 k20 n21 n22 n23 n24 n25 n26 n27 n28 w R) : Ca Try.prog 15 #[Value.agg #[Value.int IntKind.i64 n1, Value.int IntKind.i64 n2, Value.int IntKind.i64 n3, Value.slice p4 k5 k6, Value.int IntKind.i64 n7, Value.int IntKind.i64 n8, Value.int IntKind.i64 n9, Value.int IntKind.i64 n10, Value.int IntKind.i64 n11, Value.int IntKind.i64 n12, Value.int IntKind.i64 n13, Value.int IntKind.i64 n14], Value.agg #[Value.int IntKind.i64 n15, Value.int IntKind.i64 n16, Value.int IntKind.i64 n17, Value.slice p18 k19 k20, Value.int IntKind.i64 n21, Value.int IntKind.i64 n22, Value.int IntKind.i64 n23, Value.int IntKind.i64 n24, Value.int IntKind.i64 n25, Value.int IntKind.i64 n26, Value.int IntKind.i64 n27, Value.int IntKind.i64 n28]] w R :=
  Ca.of_fvc (c := bodyOf Try.f15) (by kernel_rfl) Try.func15 (by kernel_rfl) [] (Eq.mp (by kernel_rfl) h)

def rscheck (n1 : Int) (n2 : Int) (n3 : Int) (p4 : Option Addr) (k5 : Nat) (k6 : Nat) (n7 : Int) (n8 : Int) (n9 : Int) (n10 : Int) (n11 : Int) (n12 : Int) (n13 : Int) (n14 : Int) (w : World) (R : Ending → World → Prop) : Prop :=
 LetA (Obj.cells #[Value.int IntKind.i64 n1, Value.int IntKind.i64 n2, Value.int IntKind.i64 n3, Value.slice p4 k5 k6, Value.int IntKind.i64 n7, Value.int IntKind.i64 n8, Value.int IntKind.i64 n9, Value.int IntKind.i64 n10, Value.int IntKind.i64 n11, Value.int IntKind.i64 n12, Value.int IntKind.i64 n13, Value.int IntKind.i64 n14] (24 : Nat)) w fun b15 w16 =>
 ∃ n17 : Int,
 (
  w16.cell? { block := b15, off := (0 : Nat) } = some (Value.int IntKind.i64 n17)) ∧
 Ca Try.prog (52 : Nat) #[Value.int IntKind.i64 n17, Value.int IntKind.i64 (1 : Int), Value.int IntKind.i64 (6 : Int)] w16 fun e18 w19 =>
 ∃ b20 : Bool,
 (
  e18 = Ending.returned (Value.bool b20)) ∧
 Br (b20)
  (
   ∃ n21 : Int,
   (
    w19.cell? { block := b15, off := (1 : Nat) } = some (Value.int IntKind.i64 n21)) ∧
   ∃ n22 : Int,
   (
    w19.cell? { block := b15, off := (0 : Nat) } = some (Value.int IntKind.i64 n22)) ∧
   Ca Try.prog (52 : Nat) #[Value.int IntKind.i64 n21, Value.int IntKind.i64 (1 : Int), Value.int IntKind.i64 n22] w19 fun e23 w24 =>
   ∃ b25 : Bool,
   (
    e23 = Ending.returned (Value.bool b25)) ∧
   Br (b25)
    (
     ∃ n26 : Int,
     (
      w24.cell? { block := b15, off := (2 : Nat) } = some (Value.int IntKind.i64 n26)) ∧
     Ca Try.prog (52 : Nat) #[Value.int IntKind.i64 n26, Value.int IntKind.i64 (1 : Int), Value.int IntKind.i64 (6 : Int)] w24 fun e27 w28 =>
     ∃ b29 : Bool,
     (
      e27 = Ending.returned (Value.bool b29)) ∧
     Br (b29)
      (
       ∃ p30 : Option Addr,
       ∃ k31 : Nat,
       ∃ k32 : Nat,
       (
        w28.cell? { block := b15, off := (3 : Nat) } = some (Value.slice p30 k31 k32)) ∧
       Ca Try.prog (52 : Nat) #[Value.int IntKind.i64 (↑k31 : Int), Value.int IntKind.i64 (1 : Int), Value.int IntKind.i64 (4 : Int)] w28 fun e33 w34 =>
       ∃ b35 : Bool,
       (
        e33 = Ending.returned (Value.bool b35)) ∧
       ∃ I36 : Nat → List Value → World → Prop,
       (
        ∃ k37 : Nat,
        I36 k37 [Value.bool b35, Value.int IntKind.i64 (0 : Int)] w34) ∧
       ∀ b38 : Bool,
       ∀ n39 : Int,
       ∀ k40 : Nat,
       ∀ w41 : World,
       (
        I36 k40 [Value.bool b38, Value.int IntKind.i64 n39] w41) →
       ∃ p42 : Option Addr,
       ∃ k43 : Nat,
       ∃ k44 : Nat,
       (
        w41.cell? { block := b15, off := (3 : Nat) } = some (Value.slice p42 k43 k44)) ∧
       Br (decide (n39 < (↑k43 : Int)))
        (
         Br (b38)
          (
           ∃ p45 : Option Addr,
           ∃ k46 : Nat,
           ∃ k47 : Nat,
           (
            w41.cell? { block := b15, off := (3 : Nat) } = some (Value.slice p45 k46 k47)) ∧
           NilOk p45 fun a48 =>
           (
            (
             (0 : Int) ≤ n39) ∧
            n39 < (↑k46 : Int)) ∧
           ∃ n49 : Int,
           (
            w41.cell? (a48.add (n39.toNat * (1 : Nat))) = some (Value.int IntKind.i64 n49)) ∧
           Ca Try.prog (52 : Nat) #[Value.int IntKind.i64 n49, Value.int IntKind.i64 (96 : Int), Value.int IntKind.i64 (65536 : Int)] w41 fun e50 w51 =>
           ∃ b52 : Bool,
           (
            e50 = Ending.returned (Value.bool b52)) ∧
           LetI (IntKind.i64.wrap (n39 + (1 : Int))) fun n53 =>
           ∃ k54 : Nat,
           (
            k54 < k40) ∧
           I36 k54 [Value.bool b52, Value.int IntKind.i64 n53] w51)
          (
           LetI (IntKind.i64.wrap (n39 + (1 : Int))) fun n55 =>
           ∃ k56 : Nat,
           (
            k56 < k40) ∧
           I36 k56 [Value.bool false, Value.int IntKind.i64 n55] w41))
        (
         Br (b38)
          (
           ∃ n57 : Int,
           (
            w41.cell? { block := b15, off := (4 : Nat) } = some (Value.int IntKind.i64 n57)) ∧
           Ca Try.prog (52 : Nat) #[Value.int IntKind.i64 n57, Value.int IntKind.i64 (1 : Int), Value.int IntKind.i64 (16 : Int)] w41 fun e58 w59 =>
           ∃ b60 : Bool,
           (
            e58 = Ending.returned (Value.bool b60)) ∧
           Br (b60)
            (
             ∃ n61 : Int,
             (
              w59.cell? { block := b15, off := (5 : Nat) } = some (Value.int IntKind.i64 n61)) ∧
             Ca Try.prog (52 : Nat) #[Value.int IntKind.i64 n61, Value.int IntKind.i64 (1 : Int), Value.int IntKind.i64 (16 : Int)] w59 fun e62 w63 =>
             ∃ b64 : Bool,
             (
              e62 = Ending.returned (Value.bool b64)) ∧
             Br (b64)
              (
               ∃ n65 : Int,
               (
                w63.cell? { block := b15, off := (6 : Nat) } = some (Value.int IntKind.i64 n65)) ∧
               Ca Try.prog (52 : Nat) #[Value.int IntKind.i64 n65, Value.int IntKind.i64 (1 : Int), Value.int IntKind.i64 (16 : Int)] w63 fun e66 w67 =>
               ∃ b68 : Bool,
               (
                e66 = Ending.returned (Value.bool b68)) ∧
               Br (b68)
                (
                 ∃ n69 : Int,
                 (
                  w67.cell? { block := b15, off := (7 : Nat) } = some (Value.int IntKind.i64 n69)) ∧
                 Ca Try.prog (52 : Nat) #[Value.int IntKind.i64 n69, Value.int IntKind.i64 (4 : Int), Value.int IntKind.i64 (64 : Int)] w67 fun e70 w71 =>
                 ∃ b72 : Bool,
                 (
                  e70 = Ending.returned (Value.bool b72)) ∧
                 Br (b72)
                  (
                   ∃ n73 : Int,
                   (
                    w71.cell? { block := b15, off := (8 : Nat) } = some (Value.int IntKind.i64 n73)) ∧
                   Ca Try.prog (52 : Nat) #[Value.int IntKind.i64 n73, Value.int IntKind.i64 (4 : Int), Value.int IntKind.i64 (64 : Int)] w71 fun e74 w75 =>
                   ∃ b76 : Bool,
                   (
                    e74 = Ending.returned (Value.bool b76)) ∧
                   Br (b76)
                    (
                     ∃ n77 : Int,
                     (
                      w75.cell? { block := b15, off := (9 : Nat) } = some (Value.int IntKind.i64 n77)) ∧
                     Ca Try.prog (52 : Nat) #[Value.int IntKind.i64 n77, Value.int IntKind.i64 (4 : Int), Value.int IntKind.i64 (64 : Int)] w75 fun e78 w79 =>
                     ∃ b80 : Bool,
                     (
                      e78 = Ending.returned (Value.bool b80)) ∧
                     Br (b80)
                      (
                       ∃ n81 : Int,
                       (
                        w79.cell? { block := b15, off := (10 : Nat) } = some (Value.int IntKind.i64 n81)) ∧
                       Ca Try.prog (52 : Nat) #[Value.int IntKind.i64 n81, Value.int IntKind.i64 (0 : Int), Value.int IntKind.i64 (16 : Int)] w79 fun e82 w83 =>
                       ∃ b84 : Bool,
                       (
                        e82 = Ending.returned (Value.bool b84)) ∧
                       Br (b84)
                        (
                         ∃ n85 : Int,
                         (
                          w83.cell? { block := b15, off := (11 : Nat) } = some (Value.int IntKind.i64 n85)) ∧
                         Ca Try.prog (52 : Nat) #[Value.int IntKind.i64 n85, Value.int IntKind.i64 (1 : Int), Value.int IntKind.i64 (1099511627776 : Int)] w83 fun e86 w87 =>
                         ∃ b88 : Bool,
                         (
                          e86 = Ending.returned (Value.bool b88)) ∧
                         Br (!b88)
                          (
                           R (Ending.returned (Value.int IntKind.i64 (2 : Int))) w87)
                          (
                           R (Ending.returned (Value.int IntKind.i64 (0 : Int))) w87))
                        (
                         R (Ending.returned (Value.int IntKind.i64 (2 : Int))) w83))
                      (
                       R (Ending.returned (Value.int IntKind.i64 (2 : Int))) w79))
                    (
                     R (Ending.returned (Value.int IntKind.i64 (2 : Int))) w75))
                  (
                   R (Ending.returned (Value.int IntKind.i64 (2 : Int))) w71))
                (
                 R (Ending.returned (Value.int IntKind.i64 (2 : Int))) w67))
              (
               R (Ending.returned (Value.int IntKind.i64 (2 : Int))) w63))
            (
             R (Ending.returned (Value.int IntKind.i64 (2 : Int))) w59))
          (
           R (Ending.returned (Value.int IntKind.i64 (2 : Int))) w41)))
      (
       ∃ I89 : Nat → List Value → World → Prop,
       (
        ∃ k90 : Nat,
        I89 k90 [Value.bool false, Value.int IntKind.i64 (0 : Int)] w28) ∧
       ∀ b91 : Bool,
       ∀ n92 : Int,
       ∀ k93 : Nat,
       ∀ w94 : World,
       (
        I89 k93 [Value.bool b91, Value.int IntKind.i64 n92] w94) →
       ∃ p95 : Option Addr,
       ∃ k96 : Nat,
       ∃ k97 : Nat,
       (
        w94.cell? { block := b15, off := (3 : Nat) } = some (Value.slice p95 k96 k97)) ∧
       Br (decide (n92 < (↑k96 : Int)))
        (
         Br (b91)
          (
           ∃ p98 : Option Addr,
           ∃ k99 : Nat,
           ∃ k100 : Nat,
           (
            w94.cell? { block := b15, off := (3 : Nat) } = some (Value.slice p98 k99 k100)) ∧
           NilOk p98 fun a101 =>
           (
            (
             (0 : Int) ≤ n92) ∧
            n92 < (↑k99 : Int)) ∧
           ∃ n102 : Int,
           (
            w94.cell? (a101.add (n92.toNat * (1 : Nat))) = some (Value.int IntKind.i64 n102)) ∧
           Ca Try.prog (52 : Nat) #[Value.int IntKind.i64 n102, Value.int IntKind.i64 (96 : Int), Value.int IntKind.i64 (65536 : Int)] w94 fun e103 w104 =>
           ∃ b105 : Bool,
           (
            e103 = Ending.returned (Value.bool b105)) ∧
           LetI (IntKind.i64.wrap (n92 + (1 : Int))) fun n106 =>
           ∃ k107 : Nat,
           (
            k107 < k93) ∧
           I89 k107 [Value.bool b105, Value.int IntKind.i64 n106] w104)
          (
           LetI (IntKind.i64.wrap (n92 + (1 : Int))) fun n108 =>
           ∃ k109 : Nat,
           (
            k109 < k93) ∧
           I89 k109 [Value.bool false, Value.int IntKind.i64 n108] w94))
        (
         Br (b91)
          (
           ∃ n110 : Int,
           (
            w94.cell? { block := b15, off := (4 : Nat) } = some (Value.int IntKind.i64 n110)) ∧
           Ca Try.prog (52 : Nat) #[Value.int IntKind.i64 n110, Value.int IntKind.i64 (1 : Int), Value.int IntKind.i64 (16 : Int)] w94 fun e111 w112 =>
           ∃ b113 : Bool,
           (
            e111 = Ending.returned (Value.bool b113)) ∧
           Br (b113)
            (
             ∃ n114 : Int,
             (
              w112.cell? { block := b15, off := (5 : Nat) } = some (Value.int IntKind.i64 n114)) ∧
             Ca Try.prog (52 : Nat) #[Value.int IntKind.i64 n114, Value.int IntKind.i64 (1 : Int), Value.int IntKind.i64 (16 : Int)] w112 fun e115 w116 =>
             ∃ b117 : Bool,
             (
              e115 = Ending.returned (Value.bool b117)) ∧
             Br (b117)
              (
               ∃ n118 : Int,
               (
                w116.cell? { block := b15, off := (6 : Nat) } = some (Value.int IntKind.i64 n118)) ∧
               Ca Try.prog (52 : Nat) #[Value.int IntKind.i64 n118, Value.int IntKind.i64 (1 : Int), Value.int IntKind.i64 (16 : Int)] w116 fun e119 w120 =>
               ∃ b121 : Bool,
               (
                e119 = Ending.returned (Value.bool b121)) ∧
               Br (b121)
                (
                 ∃ n122 : Int,
                 (
                  w120.cell? { block := b15, off := (7 : Nat) } = some (Value.int IntKind.i64 n122)) ∧
                 Ca Try.prog (52 : Nat) #[Value.int IntKind.i64 n122, Value.int IntKind.i64 (4 : Int), Value.int IntKind.i64 (64 : Int)] w120 fun e123 w124 =>
                 ∃ b125 : Bool,
                 (
                  e123 = Ending.returned (Value.bool b125)) ∧
                 Br (b125)
                  (
                   ∃ n126 : Int,
                   (
                    w124.cell? { block := b15, off := (8 : Nat) } = some (Value.int IntKind.i64 n126)) ∧
                   Ca Try.prog (52 : Nat) #[Value.int IntKind.i64 n126, Value.int IntKind.i64 (4 : Int), Value.int IntKind.i64 (64 : Int)] w124 fun e127 w128 =>
                   ∃ b129 : Bool,
                   (
                    e127 = Ending.returned (Value.bool b129)) ∧
                   Br (b129)
                    (
                     ∃ n130 : Int,
                     (
                      w128.cell? { block := b15, off := (9 : Nat) } = some (Value.int IntKind.i64 n130)) ∧
                     Ca Try.prog (52 : Nat) #[Value.int IntKind.i64 n130, Value.int IntKind.i64 (4 : Int), Value.int IntKind.i64 (64 : Int)] w128 fun e131 w132 =>
                     ∃ b133 : Bool,
                     (
                      e131 = Ending.returned (Value.bool b133)) ∧
                     Br (b133)
                      (
                       ∃ n134 : Int,
                       (
                        w132.cell? { block := b15, off := (10 : Nat) } = some (Value.int IntKind.i64 n134)) ∧
                       Ca Try.prog (52 : Nat) #[Value.int IntKind.i64 n134, Value.int IntKind.i64 (0 : Int), Value.int IntKind.i64 (16 : Int)] w132 fun e135 w136 =>
                       ∃ b137 : Bool,
                       (
                        e135 = Ending.returned (Value.bool b137)) ∧
                       Br (b137)
                        (
                         ∃ n138 : Int,
                         (
                          w136.cell? { block := b15, off := (11 : Nat) } = some (Value.int IntKind.i64 n138)) ∧
                         Ca Try.prog (52 : Nat) #[Value.int IntKind.i64 n138, Value.int IntKind.i64 (1 : Int), Value.int IntKind.i64 (1099511627776 : Int)] w136 fun e139 w140 =>
                         ∃ b141 : Bool,
                         (
                          e139 = Ending.returned (Value.bool b141)) ∧
                         Br (!b141)
                          (
                           R (Ending.returned (Value.int IntKind.i64 (2 : Int))) w140)
                          (
                           R (Ending.returned (Value.int IntKind.i64 (0 : Int))) w140))
                        (
                         R (Ending.returned (Value.int IntKind.i64 (2 : Int))) w136))
                      (
                       R (Ending.returned (Value.int IntKind.i64 (2 : Int))) w132))
                    (
                     R (Ending.returned (Value.int IntKind.i64 (2 : Int))) w128))
                  (
                   R (Ending.returned (Value.int IntKind.i64 (2 : Int))) w124))
                (
                 R (Ending.returned (Value.int IntKind.i64 (2 : Int))) w120))
              (
               R (Ending.returned (Value.int IntKind.i64 (2 : Int))) w116))
            (
             R (Ending.returned (Value.int IntKind.i64 (2 : Int))) w112))
          (
           R (Ending.returned (Value.int IntKind.i64 (2 : Int))) w94))))
    (
     ∃ I142 : Nat → List Value → World → Prop,
     (
      ∃ k143 : Nat,
      I142 k143 [Value.bool false, Value.int IntKind.i64 (0 : Int)] w24) ∧
     ∀ b144 : Bool,
     ∀ n145 : Int,
     ∀ k146 : Nat,
     ∀ w147 : World,
     (
      I142 k146 [Value.bool b144, Value.int IntKind.i64 n145] w147) →
     ∃ p148 : Option Addr,
     ∃ k149 : Nat,
     ∃ k150 : Nat,
     (
      w147.cell? { block := b15, off := (3 : Nat) } = some (Value.slice p148 k149 k150)) ∧
     Br (decide (n145 < (↑k149 : Int)))
      (
       Br (b144)
        (
         ∃ p151 : Option Addr,
         ∃ k152 : Nat,
         ∃ k153 : Nat,
         (
          w147.cell? { block := b15, off := (3 : Nat) } = some (Value.slice p151 k152 k153)) ∧
         NilOk p151 fun a154 =>
         (
          (
           (0 : Int) ≤ n145) ∧
          n145 < (↑k152 : Int)) ∧
         ∃ n155 : Int,
         (
          w147.cell? (a154.add (n145.toNat * (1 : Nat))) = some (Value.int IntKind.i64 n155)) ∧
         Ca Try.prog (52 : Nat) #[Value.int IntKind.i64 n155, Value.int IntKind.i64 (96 : Int), Value.int IntKind.i64 (65536 : Int)] w147 fun e156 w157 =>
         ∃ b158 : Bool,
         (
          e156 = Ending.returned (Value.bool b158)) ∧
         LetI (IntKind.i64.wrap (n145 + (1 : Int))) fun n159 =>
         ∃ k160 : Nat,
         (
          k160 < k146) ∧
         I142 k160 [Value.bool b158, Value.int IntKind.i64 n159] w157)
        (
         LetI (IntKind.i64.wrap (n145 + (1 : Int))) fun n161 =>
         ∃ k162 : Nat,
         (
          k162 < k146) ∧
         I142 k162 [Value.bool false, Value.int IntKind.i64 n161] w147))
      (
       Br (b144)
        (
         ∃ n163 : Int,
         (
          w147.cell? { block := b15, off := (4 : Nat) } = some (Value.int IntKind.i64 n163)) ∧
         Ca Try.prog (52 : Nat) #[Value.int IntKind.i64 n163, Value.int IntKind.i64 (1 : Int), Value.int IntKind.i64 (16 : Int)] w147 fun e164 w165 =>
         ∃ b166 : Bool,
         (
          e164 = Ending.returned (Value.bool b166)) ∧
         Br (b166)
          (
           ∃ n167 : Int,
           (
            w165.cell? { block := b15, off := (5 : Nat) } = some (Value.int IntKind.i64 n167)) ∧
           Ca Try.prog (52 : Nat) #[Value.int IntKind.i64 n167, Value.int IntKind.i64 (1 : Int), Value.int IntKind.i64 (16 : Int)] w165 fun e168 w169 =>
           ∃ b170 : Bool,
           (
            e168 = Ending.returned (Value.bool b170)) ∧
           Br (b170)
            (
             ∃ n171 : Int,
             (
              w169.cell? { block := b15, off := (6 : Nat) } = some (Value.int IntKind.i64 n171)) ∧
             Ca Try.prog (52 : Nat) #[Value.int IntKind.i64 n171, Value.int IntKind.i64 (1 : Int), Value.int IntKind.i64 (16 : Int)] w169 fun e172 w173 =>
             ∃ b174 : Bool,
             (
              e172 = Ending.returned (Value.bool b174)) ∧
             Br (b174)
              (
               ∃ n175 : Int,
               (
                w173.cell? { block := b15, off := (7 : Nat) } = some (Value.int IntKind.i64 n175)) ∧
               Ca Try.prog (52 : Nat) #[Value.int IntKind.i64 n175, Value.int IntKind.i64 (4 : Int), Value.int IntKind.i64 (64 : Int)] w173 fun e176 w177 =>
               ∃ b178 : Bool,
               (
                e176 = Ending.returned (Value.bool b178)) ∧
               Br (b178)
                (
                 ∃ n179 : Int,
                 (
                  w177.cell? { block := b15, off := (8 : Nat) } = some (Value.int IntKind.i64 n179)) ∧
                 Ca Try.prog (52 : Nat) #[Value.int IntKind.i64 n179, Value.int IntKind.i64 (4 : Int), Value.int IntKind.i64 (64 : Int)] w177 fun e180 w181 =>
                 ∃ b182 : Bool,
                 (
                  e180 = Ending.returned (Value.bool b182)) ∧
                 Br (b182)
                  (
                   ∃ n183 : Int,
                   (
                    w181.cell? { block := b15, off := (9 : Nat) } = some (Value.int IntKind.i64 n183)) ∧
                   Ca Try.prog (52 : Nat) #[Value.int IntKind.i64 n183, Value.int IntKind.i64 (4 : Int), Value.int IntKind.i64 (64 : Int)] w181 fun e184 w185 =>
                   ∃ b186 : Bool,
                   (
                    e184 = Ending.returned (Value.bool b186)) ∧
                   Br (b186)
                    (
                     ∃ n187 : Int,
                     (
                      w185.cell? { block := b15, off := (10 : Nat) } = some (Value.int IntKind.i64 n187)) ∧
                     Ca Try.prog (52 : Nat) #[Value.int IntKind.i64 n187, Value.int IntKind.i64 (0 : Int), Value.int IntKind.i64 (16 : Int)] w185 fun e188 w189 =>
                     ∃ b190 : Bool,
                     (
                      e188 = Ending.returned (Value.bool b190)) ∧
                     Br (b190)
                      (
                       ∃ n191 : Int,
                       (
                        w189.cell? { block := b15, off := (11 : Nat) } = some (Value.int IntKind.i64 n191)) ∧
                       Ca Try.prog (52 : Nat) #[Value.int IntKind.i64 n191, Value.int IntKind.i64 (1 : Int), Value.int IntKind.i64 (1099511627776 : Int)] w189 fun e192 w193 =>
                       ∃ b194 : Bool,
                       (
                        e192 = Ending.returned (Value.bool b194)) ∧
                       Br (!b194)
                        (
                         R (Ending.returned (Value.int IntKind.i64 (2 : Int))) w193)
                        (
                         R (Ending.returned (Value.int IntKind.i64 (0 : Int))) w193))
                      (
                       R (Ending.returned (Value.int IntKind.i64 (2 : Int))) w189))
                    (
                     R (Ending.returned (Value.int IntKind.i64 (2 : Int))) w185))
                  (
                   R (Ending.returned (Value.int IntKind.i64 (2 : Int))) w181))
                (
                 R (Ending.returned (Value.int IntKind.i64 (2 : Int))) w177))
              (
               R (Ending.returned (Value.int IntKind.i64 (2 : Int))) w173))
            (
             R (Ending.returned (Value.int IntKind.i64 (2 : Int))) w169))
          (
           R (Ending.returned (Value.int IntKind.i64 (2 : Int))) w165))
        (
         R (Ending.returned (Value.int IntKind.i64 (2 : Int))) w147))))
  (
   ∃ I195 : Nat → List Value → World → Prop,
   (
    ∃ k196 : Nat,
    I195 k196 [Value.bool false, Value.int IntKind.i64 (0 : Int)] w19) ∧
   ∀ b197 : Bool,
   ∀ n198 : Int,
   ∀ k199 : Nat,
   ∀ w200 : World,
   (
    I195 k199 [Value.bool b197, Value.int IntKind.i64 n198] w200) →
   ∃ p201 : Option Addr,
   ∃ k202 : Nat,
   ∃ k203 : Nat,
   (
    w200.cell? { block := b15, off := (3 : Nat) } = some (Value.slice p201 k202 k203)) ∧
   Br (decide (n198 < (↑k202 : Int)))
    (
     Br (b197)
      (
       ∃ p204 : Option Addr,
       ∃ k205 : Nat,
       ∃ k206 : Nat,
       (
        w200.cell? { block := b15, off := (3 : Nat) } = some (Value.slice p204 k205 k206)) ∧
       NilOk p204 fun a207 =>
       (
        (
         (0 : Int) ≤ n198) ∧
        n198 < (↑k205 : Int)) ∧
       ∃ n208 : Int,
       (
        w200.cell? (a207.add (n198.toNat * (1 : Nat))) = some (Value.int IntKind.i64 n208)) ∧
       Ca Try.prog (52 : Nat) #[Value.int IntKind.i64 n208, Value.int IntKind.i64 (96 : Int), Value.int IntKind.i64 (65536 : Int)] w200 fun e209 w210 =>
       ∃ b211 : Bool,
       (
        e209 = Ending.returned (Value.bool b211)) ∧
       LetI (IntKind.i64.wrap (n198 + (1 : Int))) fun n212 =>
       ∃ k213 : Nat,
       (
        k213 < k199) ∧
       I195 k213 [Value.bool b211, Value.int IntKind.i64 n212] w210)
      (
       LetI (IntKind.i64.wrap (n198 + (1 : Int))) fun n214 =>
       ∃ k215 : Nat,
       (
        k215 < k199) ∧
       I195 k215 [Value.bool false, Value.int IntKind.i64 n214] w200))
    (
     Br (b197)
      (
       ∃ n216 : Int,
       (
        w200.cell? { block := b15, off := (4 : Nat) } = some (Value.int IntKind.i64 n216)) ∧
       Ca Try.prog (52 : Nat) #[Value.int IntKind.i64 n216, Value.int IntKind.i64 (1 : Int), Value.int IntKind.i64 (16 : Int)] w200 fun e217 w218 =>
       ∃ b219 : Bool,
       (
        e217 = Ending.returned (Value.bool b219)) ∧
       Br (b219)
        (
         ∃ n220 : Int,
         (
          w218.cell? { block := b15, off := (5 : Nat) } = some (Value.int IntKind.i64 n220)) ∧
         Ca Try.prog (52 : Nat) #[Value.int IntKind.i64 n220, Value.int IntKind.i64 (1 : Int), Value.int IntKind.i64 (16 : Int)] w218 fun e221 w222 =>
         ∃ b223 : Bool,
         (
          e221 = Ending.returned (Value.bool b223)) ∧
         Br (b223)
          (
           ∃ n224 : Int,
           (
            w222.cell? { block := b15, off := (6 : Nat) } = some (Value.int IntKind.i64 n224)) ∧
           Ca Try.prog (52 : Nat) #[Value.int IntKind.i64 n224, Value.int IntKind.i64 (1 : Int), Value.int IntKind.i64 (16 : Int)] w222 fun e225 w226 =>
           ∃ b227 : Bool,
           (
            e225 = Ending.returned (Value.bool b227)) ∧
           Br (b227)
            (
             ∃ n228 : Int,
             (
              w226.cell? { block := b15, off := (7 : Nat) } = some (Value.int IntKind.i64 n228)) ∧
             Ca Try.prog (52 : Nat) #[Value.int IntKind.i64 n228, Value.int IntKind.i64 (4 : Int), Value.int IntKind.i64 (64 : Int)] w226 fun e229 w230 =>
             ∃ b231 : Bool,
             (
              e229 = Ending.returned (Value.bool b231)) ∧
             Br (b231)
              (
               ∃ n232 : Int,
               (
                w230.cell? { block := b15, off := (8 : Nat) } = some (Value.int IntKind.i64 n232)) ∧
               Ca Try.prog (52 : Nat) #[Value.int IntKind.i64 n232, Value.int IntKind.i64 (4 : Int), Value.int IntKind.i64 (64 : Int)] w230 fun e233 w234 =>
               ∃ b235 : Bool,
               (
                e233 = Ending.returned (Value.bool b235)) ∧
               Br (b235)
                (
                 ∃ n236 : Int,
                 (
                  w234.cell? { block := b15, off := (9 : Nat) } = some (Value.int IntKind.i64 n236)) ∧
                 Ca Try.prog (52 : Nat) #[Value.int IntKind.i64 n236, Value.int IntKind.i64 (4 : Int), Value.int IntKind.i64 (64 : Int)] w234 fun e237 w238 =>
                 ∃ b239 : Bool,
                 (
                  e237 = Ending.returned (Value.bool b239)) ∧
                 Br (b239)
                  (
                   ∃ n240 : Int,
                   (
                    w238.cell? { block := b15, off := (10 : Nat) } = some (Value.int IntKind.i64 n240)) ∧
                   Ca Try.prog (52 : Nat) #[Value.int IntKind.i64 n240, Value.int IntKind.i64 (0 : Int), Value.int IntKind.i64 (16 : Int)] w238 fun e241 w242 =>
                   ∃ b243 : Bool,
                   (
                    e241 = Ending.returned (Value.bool b243)) ∧
                   Br (b243)
                    (
                     ∃ n244 : Int,
                     (
                      w242.cell? { block := b15, off := (11 : Nat) } = some (Value.int IntKind.i64 n244)) ∧
                     Ca Try.prog (52 : Nat) #[Value.int IntKind.i64 n244, Value.int IntKind.i64 (1 : Int), Value.int IntKind.i64 (1099511627776 : Int)] w242 fun e245 w246 =>
                     ∃ b247 : Bool,
                     (
                      e245 = Ending.returned (Value.bool b247)) ∧
                     Br (!b247)
                      (
                       R (Ending.returned (Value.int IntKind.i64 (2 : Int))) w246)
                      (
                       R (Ending.returned (Value.int IntKind.i64 (0 : Int))) w246))
                    (
                     R (Ending.returned (Value.int IntKind.i64 (2 : Int))) w242))
                  (
                   R (Ending.returned (Value.int IntKind.i64 (2 : Int))) w238))
                (
                 R (Ending.returned (Value.int IntKind.i64 (2 : Int))) w234))
              (
               R (Ending.returned (Value.int IntKind.i64 (2 : Int))) w230))
            (
             R (Ending.returned (Value.int IntKind.i64 (2 : Int))) w226))
          (
           R (Ending.returned (Value.int IntKind.i64 (2 : Int))) w222))
        (
         R (Ending.returned (Value.int IntKind.i64 (2 : Int))) w218))
      (
       R (Ending.returned (Value.int IntKind.i64 (2 : Int))) w200)))
theorem rscheck_ok (n1 : Int) (n2 : Int) (n3 : Int) (p4 : Option Addr) (k5 : Nat) (k6 : Nat) (n7 : Int) (n8 : Int) (n9 : Int) (n10 : Int) (n11 : Int) (n12 : Int) (n13 : Int) (n14 : Int) (w : World) (R : Ending → World → Prop) (h : rscheck n1 n2 n3 p4 k5 k6 n7 n8 n9 n10 n11 n12 n13 n14 w R) : Ca Try.prog 17 #[Value.agg #[Value.int IntKind.i64 n1, Value.int IntKind.i64 n2, Value.int IntKind.i64 n3, Value.slice p4 k5 k6, Value.int IntKind.i64 n7, Value.int IntKind.i64 n8, Value.int IntKind.i64 n9, Value.int IntKind.i64 n10, Value.int IntKind.i64 n11, Value.int IntKind.i64 n12, Value.int IntKind.i64 n13, Value.int IntKind.i64 n14]] w R :=
  Ca.of_fvc (c := bodyOf Try.f17) (by kernel_rfl) Try.func17 (by kernel_rfl) [] (Eq.mp (by kernel_rfl) h)

def rsfirst (n1 : Int) (n2 : Int) (n3 : Int) (p4 : Option Addr) (k5 : Nat) (k6 : Nat) (n7 : Int) (n8 : Int) (n9 : Int) (n10 : Int) (n11 : Int) (n12 : Int) (n13 : Int) (n14 : Int) (w : World) (R : Ending → World → Prop) : Prop :=
 LetA (Obj.cells #[Value.int IntKind.i64 n1, Value.int IntKind.i64 n2, Value.int IntKind.i64 n3, Value.slice p4 k5 k6, Value.int IntKind.i64 n7, Value.int IntKind.i64 n8, Value.int IntKind.i64 n9, Value.int IntKind.i64 n10, Value.int IntKind.i64 n11, Value.int IntKind.i64 n12, Value.int IntKind.i64 n13, Value.int IntKind.i64 n14] (24 : Nat)) w fun b15 w16 =>
 LetA (Obj.cells #[Value.int IntKind.i64 (0 : Int), Value.slice none (0 : Nat) (0 : Nat), Value.int IntKind.i64 (0 : Int)] (32 : Nat)) w16 fun b17 w18 =>
 ∃ n19 : Int,
 ∃ n20 : Int,
 ∃ n21 : Int,
 ∃ p22 : Option Addr,
 ∃ k23 : Nat,
 ∃ k24 : Nat,
 ∃ n25 : Int,
 ∃ n26 : Int,
 ∃ n27 : Int,
 ∃ n28 : Int,
 ∃ n29 : Int,
 ∃ n30 : Int,
 ∃ n31 : Int,
 ∃ n32 : Int,
 (
  Row w18 { block := b15, off := (0 : Nat) } (0 : Nat) [Value.int IntKind.i64 n19, Value.int IntKind.i64 n20, Value.int IntKind.i64 n21, Value.slice p22 k23 k24, Value.int IntKind.i64 n25, Value.int IntKind.i64 n26, Value.int IntKind.i64 n27, Value.int IntKind.i64 n28, Value.int IntKind.i64 n29, Value.int IntKind.i64 n30, Value.int IntKind.i64 n31, Value.int IntKind.i64 n32]) ∧
 Ca Try.prog (17 : Nat) #[Value.agg #[Value.int IntKind.i64 n19, Value.int IntKind.i64 n20, Value.int IntKind.i64 n21, Value.slice p22 k23 k24, Value.int IntKind.i64 n25, Value.int IntKind.i64 n26, Value.int IntKind.i64 n27, Value.int IntKind.i64 n28, Value.int IntKind.i64 n29, Value.int IntKind.i64 n30, Value.int IntKind.i64 n31, Value.int IntKind.i64 n32]] w18 fun e33 w34 =>
 ∃ n35 : Int,
 (
  e33 = Ending.returned (Value.int IntKind.i64 n35)) ∧
 Br (n35 != (0 : Int))
  (
   (
    WrRow w34 { block := b17, off := (0 : Nat) } (0 : Nat) [Value.int IntKind.i64 (0 : Int), Value.slice none (0 : Nat) (0 : Nat), Value.int IntKind.i64 (0 : Int)]) ∧
   LetW (setRow w34 { block := b17, off := (0 : Nat) } (0 : Nat) [Value.int IntKind.i64 (0 : Int), Value.slice none (0 : Nat) (0 : Nat), Value.int IntKind.i64 (0 : Int)]) fun w36 =>
   ∃ n37 : Int,
   ∃ p38 : Option Addr,
   ∃ k39 : Nat,
   ∃ k40 : Nat,
   ∃ n41 : Int,
   (
    Row w36 { block := b17, off := (0 : Nat) } (0 : Nat) [Value.int IntKind.i64 n37, Value.slice p38 k39 k40, Value.int IntKind.i64 n41]) ∧
   R (Ending.returned (Value.tuple #[Value.agg #[Value.int IntKind.i64 n37, Value.slice p38 k39 k40, Value.int IntKind.i64 n41], Value.int IntKind.i64 (2 : Int)])) w36)
  (
   LetA (Obj.cells #[] (64 : Nat)) w34 fun b42 w43 =>
   ∃ I44 : Nat → List Value → World → Prop,
   (
    ∃ k45 : Nat,
    I44 k45 [Value.slice (some { block := b42, off := (0 : Nat) }) (0 : Nat) (0 : Nat), Value.int IntKind.i64 (0 : Int)] w43) ∧
   ∀ p46 : Option Addr,
   ∀ k47 : Nat,
   ∀ k48 : Nat,
   ∀ n49 : Int,
   ∀ k50 : Nat,
   ∀ w51 : World,
   (
    I44 k50 [Value.slice p46 k47 k48, Value.int IntKind.i64 n49] w51) →
   ∃ n52 : Int,
   (
    w51.cell? { block := b15, off := (1 : Nat) } = some (Value.int IntKind.i64 n52)) ∧
   Br (decide (n49 < n52))
    (
     LetA (Obj.cells #[Value.int IntKind.i64 n49, Value.int IntKind.i64 (1 : Int)] (64 : Nat)) w51 fun b53 w54 =>
     RunsV Try.prog (Builtin.append_ #[(30 : Nat), (30 : Nat)] (30 : Nat) #[Value.slice p46 k47 k48, Value.slice (some { block := b53, off := (0 : Nat) }) (1 : Nat) (1 : Nat)]) w54 fun v55 w56 =>
     ∃ p57 : Option Addr,
     ∃ k58 : Nat,
     ∃ k59 : Nat,
     (
      v55 = Value.slice p57 k58 k59) ∧
     LetI (IntKind.i64.wrap (n49 + (1 : Int))) fun n60 =>
     ∃ k61 : Nat,
     (
      k61 < k50) ∧
     I44 k61 [Value.slice p57 k58 k59, Value.int IntKind.i64 n60] w56)
    (
     (
      WrRow w51 { block := b17, off := (0 : Nat) } (0 : Nat) [Value.int IntKind.i64 (1 : Int), Value.slice p46 k47 k48, Value.int IntKind.i64 (-1 : Int)]) ∧
     LetW (setRow w51 { block := b17, off := (0 : Nat) } (0 : Nat) [Value.int IntKind.i64 (1 : Int), Value.slice p46 k47 k48, Value.int IntKind.i64 (-1 : Int)]) fun w62 =>
     ∃ n63 : Int,
     ∃ p64 : Option Addr,
     ∃ k65 : Nat,
     ∃ k66 : Nat,
     ∃ n67 : Int,
     (
      Row w62 { block := b17, off := (0 : Nat) } (0 : Nat) [Value.int IntKind.i64 n63, Value.slice p64 k65 k66, Value.int IntKind.i64 n67]) ∧
     R (Ending.returned (Value.tuple #[Value.agg #[Value.int IntKind.i64 n63, Value.slice p64 k65 k66, Value.int IntKind.i64 n67], Value.int IntKind.i64 (0 : Int)])) w62))
theorem rsfirst_ok (n1 : Int) (n2 : Int) (n3 : Int) (p4 : Option Addr) (k5 : Nat) (k6 : Nat) (n7 : Int) (n8 : Int) (n9 : Int) (n10 : Int) (n11 : Int) (n12 : Int) (n13 : Int) (n14 : Int) (w : World) (R : Ending → World → Prop) (h : rsfirst n1 n2 n3 p4 k5 k6 n7 n8 n9 n10 n11 n12 n13 n14 w R) : Ca Try.prog 19 #[Value.agg #[Value.int IntKind.i64 n1, Value.int IntKind.i64 n2, Value.int IntKind.i64 n3, Value.slice p4 k5 k6, Value.int IntKind.i64 n7, Value.int IntKind.i64 n8, Value.int IntKind.i64 n9, Value.int IntKind.i64 n10, Value.int IntKind.i64 n11, Value.int IntKind.i64 n12, Value.int IntKind.i64 n13, Value.int IntKind.i64 n14]] w R :=
  Ca.of_fvc (c := bodyOf Try.f19) (by kernel_rfl) Try.func19 (by kernel_rfl) [] (Eq.mp (by kernel_rfl) h)

def samechain (n1 : Int) (p2 : Option Addr) (k3 : Nat) (k4 : Nat) (n5 : Int) (n6 : Int) (p7 : Option Addr) (k8 : Nat) (k9 : Nat) (n10 : Int) (w : World) (R : Ending → World → Prop) : Prop :=
 LetA (Obj.cells #[Value.int IntKind.i64 n1, Value.slice p2 k3 k4, Value.int IntKind.i64 n5] (32 : Nat)) w fun b11 w12 =>
 LetA (Obj.cells #[Value.int IntKind.i64 n6, Value.slice p7 k8 k9, Value.int IntKind.i64 n10] (32 : Nat)) w12 fun b13 w14 =>
 ∃ n15 : Int,
 (
  w14.cell? { block := b11, off := (0 : Nat) } = some (Value.int IntKind.i64 n15)) ∧
 ∃ n16 : Int,
 (
  w14.cell? { block := b13, off := (0 : Nat) } = some (Value.int IntKind.i64 n16)) ∧
 Br (n15 != n16)
  (
   R (Ending.returned (Value.bool false)) w14)
  (
   ∃ n17 : Int,
   (
    w14.cell? { block := b11, off := (2 : Nat) } = some (Value.int IntKind.i64 n17)) ∧
   ∃ n18 : Int,
   (
    w14.cell? { block := b13, off := (2 : Nat) } = some (Value.int IntKind.i64 n18)) ∧
   Br (n17 != n18)
    (
     R (Ending.returned (Value.bool false)) w14)
    (
     ∃ p19 : Option Addr,
     ∃ k20 : Nat,
     ∃ k21 : Nat,
     (
      w14.cell? { block := b11, off := (1 : Nat) } = some (Value.slice p19 k20 k21)) ∧
     ∃ p22 : Option Addr,
     ∃ k23 : Nat,
     ∃ k24 : Nat,
     (
      w14.cell? { block := b13, off := (1 : Nat) } = some (Value.slice p22 k23 k24)) ∧
     Br ((↑k20 : Int) != (↑k23 : Int))
      (
       R (Ending.returned (Value.bool false)) w14)
      (
       ∃ I25 : Nat → List Value → World → Prop,
       (
        ∃ k26 : Nat,
        I25 k26 [Value.bool false, Value.int IntKind.i64 (0 : Int)] w14) ∧
       ∀ b27 : Bool,
       ∀ n28 : Int,
       ∀ k29 : Nat,
       ∀ w30 : World,
       (
        I25 k29 [Value.bool b27, Value.int IntKind.i64 n28] w30) →
       ∃ p31 : Option Addr,
       ∃ k32 : Nat,
       ∃ k33 : Nat,
       (
        w30.cell? { block := b11, off := (1 : Nat) } = some (Value.slice p31 k32 k33)) ∧
       Br (decide (n28 < (↑k32 : Int)))
        (
         ∃ p34 : Option Addr,
         ∃ k35 : Nat,
         ∃ k36 : Nat,
         (
          w30.cell? { block := b11, off := (1 : Nat) } = some (Value.slice p34 k35 k36)) ∧
         NilOk p34 fun a37 =>
         (
          (
           (0 : Int) ≤ n28) ∧
          n28 < (↑k35 : Int)) ∧
         ∃ n38 : Int,
         ∃ n39 : Int,
         (
          Row w30 (a37.add (n28.toNat * (2 : Nat))) (0 : Nat) [Value.int IntKind.i64 n38, Value.int IntKind.i64 n39]) ∧
         ∃ p40 : Option Addr,
         ∃ k41 : Nat,
         ∃ k42 : Nat,
         (
          w30.cell? { block := b13, off := (1 : Nat) } = some (Value.slice p40 k41 k42)) ∧
         NilOk p40 fun a43 =>
         (
          (
           (0 : Int) ≤ n28) ∧
          n28 < (↑k41 : Int)) ∧
         ∃ n44 : Int,
         ∃ n45 : Int,
         (
          Row w30 (a43.add (n28.toNat * (2 : Nat))) (0 : Nat) [Value.int IntKind.i64 n44, Value.int IntKind.i64 n45]) ∧
         Br (!(n38 == n44 && (n39 == n45 && true)))
          (
           R (Ending.returned (Value.bool false)) w30)
          (
           LetI (IntKind.i64.wrap (n28 + (1 : Int))) fun n46 =>
           ∃ k47 : Nat,
           (
            k47 < k29) ∧
           I25 k47 [Value.bool b27, Value.int IntKind.i64 n46] w30))
        (
         R (Ending.returned (Value.bool true)) w30))))
theorem samechain_ok (n1 : Int) (p2 : Option Addr) (k3 : Nat) (k4 : Nat) (n5 : Int) (n6 : Int) (p7 : Option Addr) (k8 : Nat) (k9 : Nat) (n10 : Int) (w : World) (R : Ending → World → Prop) (h : samechain n1 p2 k3 k4 n5 n6 p7 k8 k9 n10 w R) : Ca Try.prog 20 #[Value.agg #[Value.int IntKind.i64 n1, Value.slice p2 k3 k4, Value.int IntKind.i64 n5], Value.agg #[Value.int IntKind.i64 n6, Value.slice p7 k8 k9, Value.int IntKind.i64 n10]] w R :=
  Ca.of_fvc (c := bodyOf Try.f20) (by kernel_rfl) Try.func20 (by kernel_rfl) [] (Eq.mp (by kernel_rfl) h)

def fitted (w : World) (R : Ending → World → Prop) : Prop :=
 Ca Try.prog (13 : Nat) #[Value.agg #[Value.int IntKind.i64 (0 : Int), Value.int IntKind.i64 (0 : Int), Value.int IntKind.i64 (0 : Int), Value.slice none (0 : Nat) (0 : Nat), Value.int IntKind.i64 (0 : Int), Value.int IntKind.i64 (0 : Int), Value.int IntKind.i64 (0 : Int), Value.int IntKind.i64 (0 : Int), Value.int IntKind.i64 (0 : Int), Value.int IntKind.i64 (0 : Int), Value.int IntKind.i64 (0 : Int), Value.int IntKind.i64 (0 : Int)]] w fun e1 w2 =>
 ∃ n3 : Int,
 ∃ n4 : Int,
 ∃ n5 : Int,
 ∃ p6 : Option Addr,
 ∃ k7 : Nat,
 ∃ k8 : Nat,
 ∃ n9 : Int,
 ∃ n10 : Int,
 ∃ n11 : Int,
 ∃ n12 : Int,
 ∃ n13 : Int,
 ∃ n14 : Int,
 ∃ n15 : Int,
 ∃ n16 : Int,
 (
  e1 = Ending.returned (Value.agg #[Value.int IntKind.i64 n3, Value.int IntKind.i64 n4, Value.int IntKind.i64 n5, Value.slice p6 k7 k8, Value.int IntKind.i64 n9, Value.int IntKind.i64 n10, Value.int IntKind.i64 n11, Value.int IntKind.i64 n12, Value.int IntKind.i64 n13, Value.int IntKind.i64 n14, Value.int IntKind.i64 n15, Value.int IntKind.i64 n16])) ∧
 LetA (Obj.cells #[Value.int IntKind.i64 (0 : Int), Value.int IntKind.i64 (0 : Int), Value.int IntKind.i64 (0 : Int), Value.slice none (0 : Nat) (0 : Nat), Value.int IntKind.i64 (0 : Int), Value.int IntKind.i64 (0 : Int), Value.int IntKind.i64 (0 : Int), Value.int IntKind.i64 (0 : Int), Value.int IntKind.i64 (0 : Int), Value.int IntKind.i64 (0 : Int), Value.int IntKind.i64 (0 : Int), Value.int IntKind.i64 (0 : Int)] (24 : Nat)) w2 fun b17 w18 =>
 (
  WrRow w18 { block := b17, off := (0 : Nat) } (0 : Nat) [Value.int IntKind.i64 n3, Value.int IntKind.i64 n4, Value.int IntKind.i64 n5, Value.slice p6 k7 k8, Value.int IntKind.i64 n9, Value.int IntKind.i64 n10, Value.int IntKind.i64 n11, Value.int IntKind.i64 n12, Value.int IntKind.i64 n13, Value.int IntKind.i64 n14, Value.int IntKind.i64 n15, Value.int IntKind.i64 n16]) ∧
 LetW (setRow w18 { block := b17, off := (0 : Nat) } (0 : Nat) [Value.int IntKind.i64 n3, Value.int IntKind.i64 n4, Value.int IntKind.i64 n5, Value.slice p6 k7 k8, Value.int IntKind.i64 n9, Value.int IntKind.i64 n10, Value.int IntKind.i64 n11, Value.int IntKind.i64 n12, Value.int IntKind.i64 n13, Value.int IntKind.i64 n14, Value.int IntKind.i64 n15, Value.int IntKind.i64 n16]) fun w19 =>
 Ca Try.prog (13 : Nat) #[Value.agg #[Value.int IntKind.i64 (3 : Int), Value.int IntKind.i64 (2 : Int), Value.int IntKind.i64 (0 : Int), Value.slice none (0 : Nat) (0 : Nat), Value.int IntKind.i64 (0 : Int), Value.int IntKind.i64 (0 : Int), Value.int IntKind.i64 (0 : Int), Value.int IntKind.i64 (0 : Int), Value.int IntKind.i64 (0 : Int), Value.int IntKind.i64 (0 : Int), Value.int IntKind.i64 (0 : Int), Value.int IntKind.i64 (0 : Int)]] w19 fun e20 w21 =>
 ∃ n22 : Int,
 ∃ n23 : Int,
 ∃ n24 : Int,
 ∃ p25 : Option Addr,
 ∃ k26 : Nat,
 ∃ k27 : Nat,
 ∃ n28 : Int,
 ∃ n29 : Int,
 ∃ n30 : Int,
 ∃ n31 : Int,
 ∃ n32 : Int,
 ∃ n33 : Int,
 ∃ n34 : Int,
 ∃ n35 : Int,
 (
  e20 = Ending.returned (Value.agg #[Value.int IntKind.i64 n22, Value.int IntKind.i64 n23, Value.int IntKind.i64 n24, Value.slice p25 k26 k27, Value.int IntKind.i64 n28, Value.int IntKind.i64 n29, Value.int IntKind.i64 n30, Value.int IntKind.i64 n31, Value.int IntKind.i64 n32, Value.int IntKind.i64 n33, Value.int IntKind.i64 n34, Value.int IntKind.i64 n35])) ∧
 Ca Try.prog (18 : Nat) #[Value.agg #[Value.int IntKind.i64 n22, Value.int IntKind.i64 n23, Value.int IntKind.i64 n24, Value.slice p25 k26 k27, Value.int IntKind.i64 n28, Value.int IntKind.i64 n29, Value.int IntKind.i64 n30, Value.int IntKind.i64 n31, Value.int IntKind.i64 n32, Value.int IntKind.i64 n33, Value.int IntKind.i64 n34, Value.int IntKind.i64 n35]] w21 fun e36 w37 =>
 ∃ n38 : Int,
 ∃ p39 : Option Addr,
 ∃ k40 : Nat,
 ∃ k41 : Nat,
 ∃ n42 : Int,
 ∃ n43 : Int,
 (
  e36 = Ending.returned (Value.tuple #[Value.agg #[Value.int IntKind.i64 n38, Value.slice p39 k40 k41, Value.int IntKind.i64 n42], Value.int IntKind.i64 n43])) ∧
 LetA (Obj.cells #[Value.int IntKind.i64 (0 : Int), Value.slice none (0 : Nat) (0 : Nat), Value.int IntKind.i64 (0 : Int)] (32 : Nat)) w37 fun b44 w45 =>
 (
  WrRow w45 { block := b44, off := (0 : Nat) } (0 : Nat) [Value.int IntKind.i64 n38, Value.slice p39 k40 k41, Value.int IntKind.i64 n42]) ∧
 LetW (setRow w45 { block := b44, off := (0 : Nat) } (0 : Nat) [Value.int IntKind.i64 n38, Value.slice p39 k40 k41, Value.int IntKind.i64 n42]) fun w46 =>
 Ca Try.prog (16 : Nat) #[Value.agg #[Value.int IntKind.i64 (0 : Int), Value.int IntKind.i64 (0 : Int), Value.int IntKind.i64 (0 : Int), Value.slice none (0 : Nat) (0 : Nat), Value.int IntKind.i64 (0 : Int), Value.int IntKind.i64 (0 : Int), Value.int IntKind.i64 (0 : Int), Value.int IntKind.i64 (0 : Int), Value.int IntKind.i64 (0 : Int), Value.int IntKind.i64 (0 : Int), Value.int IntKind.i64 (0 : Int), Value.int IntKind.i64 (0 : Int)]] w46 fun e47 w48 =>
 ∃ n49 : Int,
 (
  e47 = Ending.returned (Value.int IntKind.i64 n49)) ∧
 Br (n49 == (2 : Int))
  (
   ∃ n50 : Int,
   ∃ n51 : Int,
   ∃ n52 : Int,
   ∃ p53 : Option Addr,
   ∃ k54 : Nat,
   ∃ k55 : Nat,
   ∃ n56 : Int,
   ∃ n57 : Int,
   ∃ n58 : Int,
   ∃ n59 : Int,
   ∃ n60 : Int,
   ∃ n61 : Int,
   ∃ n62 : Int,
   ∃ n63 : Int,
   (
    Row w48 { block := b17, off := (0 : Nat) } (0 : Nat) [Value.int IntKind.i64 n50, Value.int IntKind.i64 n51, Value.int IntKind.i64 n52, Value.slice p53 k54 k55, Value.int IntKind.i64 n56, Value.int IntKind.i64 n57, Value.int IntKind.i64 n58, Value.int IntKind.i64 n59, Value.int IntKind.i64 n60, Value.int IntKind.i64 n61, Value.int IntKind.i64 n62, Value.int IntKind.i64 n63]) ∧
   Ca Try.prog (16 : Nat) #[Value.agg #[Value.int IntKind.i64 n50, Value.int IntKind.i64 n51, Value.int IntKind.i64 n52, Value.slice p53 k54 k55, Value.int IntKind.i64 n56, Value.int IntKind.i64 n57, Value.int IntKind.i64 n58, Value.int IntKind.i64 n59, Value.int IntKind.i64 n60, Value.int IntKind.i64 n61, Value.int IntKind.i64 n62, Value.int IntKind.i64 n63]] w48 fun e64 w65 =>
   ∃ n66 : Int,
   (
    e64 = Ending.returned (Value.int IntKind.i64 n66)) ∧
   Br (n66 == (0 : Int))
    (
     ∃ n67 : Int,
     (
      w65.cell? { block := b17, off := (0 : Nat) } = some (Value.int IntKind.i64 n67)) ∧
     Br (n67 == (1 : Int))
      (
       ∃ n68 : Int,
       (
        w65.cell? { block := b17, off := (1 : Nat) } = some (Value.int IntKind.i64 n68)) ∧
       Br (n68 == (1 : Int))
        (
         ∃ p69 : Option Addr,
         ∃ k70 : Nat,
         ∃ k71 : Nat,
         (
          w65.cell? { block := b17, off := (3 : Nat) } = some (Value.slice p69 k70 k71)) ∧
         Br ((↑k70 : Int) == (1 : Int))
          (
           ∃ p72 : Option Addr,
           ∃ k73 : Nat,
           ∃ k74 : Nat,
           (
            w65.cell? { block := b17, off := (3 : Nat) } = some (Value.slice p72 k73 k74)) ∧
           NilOk p72 fun a75 =>
           (
            (
             (0 : Int) ≤ (0 : Int)) ∧
            (0 : Int) < (↑k73 : Int)) ∧
           ∃ n76 : Int,
           (
            w65.cell? a75 = some (Value.int IntKind.i64 n76)) ∧
           Br (n76 == (96 : Int))
            (
             ∃ n77 : Int,
             (
              w65.cell? { block := b17, off := (7 : Nat) } = some (Value.int IntKind.i64 n77)) ∧
             Br (n77 == (4 : Int))
              (
               Br (n43 == (0 : Int))
                (
                 ∃ n78 : Int,
                 ∃ p79 : Option Addr,
                 ∃ k80 : Nat,
                 ∃ k81 : Nat,
                 ∃ n82 : Int,
                 (
                  Row w65 { block := b44, off := (0 : Nat) } (0 : Nat) [Value.int IntKind.i64 n78, Value.slice p79 k80 k81, Value.int IntKind.i64 n82]) ∧
                 LetA (Obj.cells #[Value.int IntKind.i64 (0 : Int), Value.int IntKind.i64 (1 : Int), Value.int IntKind.i64 (1 : Int), Value.int IntKind.i64 (1 : Int)] (64 : Nat)) w65 fun b83 w84 =>
                 Ca Try.prog (20 : Nat) #[Value.agg #[Value.int IntKind.i64 n78, Value.slice p79 k80 k81, Value.int IntKind.i64 n82], Value.agg #[Value.int IntKind.i64 (1 : Int), Value.slice (some { block := b83, off := (0 : Nat) }) (2 : Nat) (2 : Nat), Value.int IntKind.i64 (-1 : Int)]] w84 fun e85 w86 =>
                 ∃ b87 : Bool,
                 (
                  e85 = Ending.returned (Value.bool b87)) ∧
                 R (Ending.returned (Value.bool b87)) w86)
                (
                 R (Ending.returned (Value.bool false)) w65))
              (
               R (Ending.returned (Value.bool false)) w65))
            (
             R (Ending.returned (Value.bool false)) w65))
          (
           R (Ending.returned (Value.bool false)) w65))
        (
         R (Ending.returned (Value.bool false)) w65))
      (
       R (Ending.returned (Value.bool false)) w65))
    (
     R (Ending.returned (Value.bool false)) w65))
  (
   R (Ending.returned (Value.bool false)) w48)
theorem fitted_ok (w : World) (R : Ending → World → Prop) (h : fitted  w R) : Ca Try.prog 12 #[] w R :=
  Ca.of_fvc (c := bodyOf Try.f12) (by kernel_rfl) Try.func12 (by kernel_rfl) [] (Eq.mp (by kernel_rfl) h)

end Go.Proofs.Ytljipmhkpnigkaa
