/- The verification conditions of this seat's functions, printed by a program; the kernel holds each against the loaded code. -/
import Derived.Test.YtdiejbojobbboaaProg
import Derived.KernelRfl
import Derived.Test.YtdiejbojobbboaaV5
set_option maxRecDepth 100000
namespace Go.Proofs.Ytdiejbojobbboaa
open Go Go.Vc Go.Proofs
def within (n1 : Int) (n2 : Int) (n3 : Int) (w : World) (R : Ending → World → Prop) : Prop :=
 Br (decide (n1 ≥ n2))
  (
   R (Ending.returned (Value.bool (decide (n1 ≤ n3)))) w)
  (
   R (Ending.returned (Value.bool false)) w)
theorem within_ok (n1 : Int) (n2 : Int) (n3 : Int) (w : World) (R : Ending → World → Prop) (h : within n1 n2 n3 w R) : Ca Try.prog 20 #[Value.int IntKind.i64 n1, Value.int IntKind.i64 n2, Value.int IntKind.i64 n3] w R :=
  Ca.of_fvc (c := bodyOf Try.f20) (by kernel_rfl) Try.func20 (by kernel_rfl) [] (Eq.mp (by kernel_rfl) h)

def snone (b1 : Nat) (w : World) (R : Ending → World → Prop) : Prop :=
 ∃ n2 : Int,
 (
  w.cell? { block := b1, off := (0 : Nat) } = some (Value.int IntKind.i64 n2)) ∧
 R (Ending.returned (Value.bool (n2 == (0 : Int)))) w
theorem snone_ok (b1 : Nat) (w : World) (R : Ending → World → Prop) (h : snone b1 w R) : Ca Try.prog 21 #[Value.pointer (some { block := b1, off := (0 : Nat) })] w R :=
  Ca.of_fvc (c := bodyOf Try.f21) (by kernel_rfl) Try.func21 (by kernel_rfl) [] (Eq.mp (by kernel_rfl) h)

def rnew (w : World) (R : Ending → World → Prop) : Prop :=
 LetA (Obj.cells #[Value.bool true, Value.int IntKind.i64 (0 : Int), Value.int IntKind.i64 (0 : Int), Value.slice none (0 : Nat) (0 : Nat)] (61 : Nat)) w fun b1 w2 =>
 R (Ending.returned (Value.pointer (some { block := b1, off := (0 : Nat) }))) w2
theorem rnew_ok (w : World) (R : Ending → World → Prop) (h : rnew  w R) : Ca Try.prog 7 #[] w R :=
  Ca.of_fvc (c := bodyOf Try.f7) (by kernel_rfl) Try.func7 (by kernel_rfl) [] (Eq.mp (by kernel_rfl) h)

def topen (n1 : Int) (s2 : ByteArray) (n3 : Int) (n4 : Int) (w : World) (R : Ending → World → Prop) : Prop :=
 Ca Try.prog (20 : Nat) #[Value.int IntKind.i64 n1, Value.int IntKind.i64 (1 : Int), Value.int IntKind.i64 (1099511627776 : Int)] w fun e5 w6 =>
 ∃ b7 : Bool,
 (
  e5 = Ending.returned (Value.bool b7)) ∧
 Br (!b7)
  (
   Br (!b7)
    (
     R (Ending.returned (Value.tuple #[Value.pointer none, Value.int IntKind.i64 (2 : Int)])) w6)
    (
     LetI (IntKind.i64.wrap (n3 * (4096 : Int))) fun n8 =>
     Br (decide ((↑s2.size : Int) > n8))
      (
       R (Ending.returned (Value.tuple #[Value.pointer none, Value.int IntKind.i64 (3 : Int)])) w6)
      (
       LetA (Obj.cells #[Value.int IntKind.i64 n1, Value.slice none (0 : Nat) (0 : Nat), Value.int IntKind.i64 n4, Value.int IntKind.i64 (0 : Int), Value.int IntKind.i64 (0 : Int)] (64 : Nat)) w6 fun b9 w10 =>
       RunsV Try.prog (convert (9 : Nat) (65 : Nat) (Value.string s2)) w10 fun v11 w12 =>
       ∃ p13 : Option Addr,
       ∃ k14 : Nat,
       ∃ k15 : Nat,
       (
        v11 = Value.slice p13 k14 k15) ∧
       ∃ I16 : Nat → List Value → World → Prop,
       (
        ∃ k17 : Nat,
        I16 k17 [Value.int IntKind.i64 (0 : Int)] w12) ∧
       ∀ n18 : Int,
       ∀ k19 : Nat,
       ∀ w20 : World,
       (
        I16 k19 [Value.int IntKind.i64 n18] w20) →
       Br (decide (n18 < (↑k14 : Int)))
        (
         LetI (IntKind.i64.wrap (n18 + n3)) fun n21 =>
         LetI (min n21 (↑k14 : Int)) fun n22 =>
         ∃ p23 : Option Addr,
         ∃ k24 : Nat,
         ∃ k25 : Nat,
         (
          w20.cell? { block := b9, off := (1 : Nat) } = some (Value.slice p23 k24 k25)) ∧
         (
          (
           (0 : Int) ≤ n18) ∧
          (
           n18 ≤ n22) ∧
          (
           n22 ≤ n22) ∧
          (
           n22 ≤ (↑k15 : Int)) ∧
          (
           (
            true = true) →
           true = true)) ∧
         RunsV Try.prog (convert (65 : Nat) (9 : Nat) (Value.slice (if n22.toNat = n18.toNat then p13 else Option.map (fun x => x.add (n18.toNat * sizeT Try.prog (5 : Nat))) p13) (n22.toNat - n18.toNat) (n22.toNat - n18.toNat))) w20 fun v26 w27 =>
         ∃ s28 : ByteArray,
         (
          v26 = Value.string s28) ∧
         (
          w27.cell? { block := b9, off := (1 : Nat) } = some (Value.slice p23 k24 k25)) ∧
         LetA (Obj.cells #[Value.string s28] (9 : Nat)) w27 fun b29 w30 =>
         (
          w30.cell? { block := b9, off := (1 : Nat) } = some (Value.slice p23 k24 k25)) ∧
         RunsV Try.prog (Builtin.append_ #[(59 : Nat), (59 : Nat)] (59 : Nat) #[Value.slice p23 k24 k25, Value.slice (some { block := b29, off := (0 : Nat) }) (1 : Nat) (1 : Nat)]) w30 fun v31 w32 =>
         ∃ p33 : Option Addr,
         ∃ k34 : Nat,
         ∃ k35 : Nat,
         (
          v31 = Value.slice p33 k34 k35) ∧
         (
          Wr w32 { block := b9, off := (1 : Nat) }) ∧
         LetW (w32.setCell { block := b9, off := (1 : Nat) } (Value.slice p33 k34 k35)) fun w36 =>
         LetI (IntKind.i64.wrap (n18 + n3)) fun n37 =>
         ∃ k38 : Nat,
         (
          k38 < k19) ∧
         I16 k38 [Value.int IntKind.i64 n37] w36)
        (
         Br (n18 == (0 : Int))
          (
           LetI (IntKind.i64.wrap (n18 + n3)) fun n39 =>
           LetI (min n39 (↑k14 : Int)) fun n40 =>
           ∃ p41 : Option Addr,
           ∃ k42 : Nat,
           ∃ k43 : Nat,
           (
            w20.cell? { block := b9, off := (1 : Nat) } = some (Value.slice p41 k42 k43)) ∧
           (
            (
             (0 : Int) ≤ n18) ∧
            (
             n18 ≤ n40) ∧
            (
             n40 ≤ n40) ∧
            (
             n40 ≤ (↑k15 : Int)) ∧
            (
             (
              true = true) →
             true = true)) ∧
           RunsV Try.prog (convert (65 : Nat) (9 : Nat) (Value.slice (if n40.toNat = n18.toNat then p13 else Option.map (fun x => x.add (n18.toNat * sizeT Try.prog (5 : Nat))) p13) (n40.toNat - n18.toNat) (n40.toNat - n18.toNat))) w20 fun v44 w45 =>
           ∃ s46 : ByteArray,
           (
            v44 = Value.string s46) ∧
           (
            w45.cell? { block := b9, off := (1 : Nat) } = some (Value.slice p41 k42 k43)) ∧
           LetA (Obj.cells #[Value.string s46] (9 : Nat)) w45 fun b47 w48 =>
           (
            w48.cell? { block := b9, off := (1 : Nat) } = some (Value.slice p41 k42 k43)) ∧
           RunsV Try.prog (Builtin.append_ #[(59 : Nat), (59 : Nat)] (59 : Nat) #[Value.slice p41 k42 k43, Value.slice (some { block := b47, off := (0 : Nat) }) (1 : Nat) (1 : Nat)]) w48 fun v49 w50 =>
           ∃ p51 : Option Addr,
           ∃ k52 : Nat,
           ∃ k53 : Nat,
           (
            v49 = Value.slice p51 k52 k53) ∧
           (
            Wr w50 { block := b9, off := (1 : Nat) }) ∧
           LetW (w50.setCell { block := b9, off := (1 : Nat) } (Value.slice p51 k52 k53)) fun w54 =>
           LetI (IntKind.i64.wrap (n18 + n3)) fun n55 =>
           ∃ k56 : Nat,
           (
            k56 < k19) ∧
           I16 k56 [Value.int IntKind.i64 n55] w54)
          (
           R (Ending.returned (Value.tuple #[Value.pointer (some { block := b9, off := (0 : Nat) }), Value.int IntKind.i64 (0 : Int)])) w20)))))
  (
   Ca Try.prog (20 : Nat) #[Value.int IntKind.i64 n3, Value.int IntKind.i64 (1 : Int), Value.int IntKind.i64 (512 : Int)] w6 fun e57 w58 =>
   ∃ b59 : Bool,
   (
    e57 = Ending.returned (Value.bool b59)) ∧
   Br (!b59)
    (
     Br (!b59)
      (
       R (Ending.returned (Value.tuple #[Value.pointer none, Value.int IntKind.i64 (2 : Int)])) w58)
      (
       LetI (IntKind.i64.wrap (n3 * (4096 : Int))) fun n60 =>
       Br (decide ((↑s2.size : Int) > n60))
        (
         R (Ending.returned (Value.tuple #[Value.pointer none, Value.int IntKind.i64 (3 : Int)])) w58)
        (
         LetA (Obj.cells #[Value.int IntKind.i64 n1, Value.slice none (0 : Nat) (0 : Nat), Value.int IntKind.i64 n4, Value.int IntKind.i64 (0 : Int), Value.int IntKind.i64 (0 : Int)] (64 : Nat)) w58 fun b61 w62 =>
         RunsV Try.prog (convert (9 : Nat) (65 : Nat) (Value.string s2)) w62 fun v63 w64 =>
         ∃ p65 : Option Addr,
         ∃ k66 : Nat,
         ∃ k67 : Nat,
         (
          v63 = Value.slice p65 k66 k67) ∧
         ∃ I68 : Nat → List Value → World → Prop,
         (
          ∃ k69 : Nat,
          I68 k69 [Value.int IntKind.i64 (0 : Int)] w64) ∧
         ∀ n70 : Int,
         ∀ k71 : Nat,
         ∀ w72 : World,
         (
          I68 k71 [Value.int IntKind.i64 n70] w72) →
         Br (decide (n70 < (↑k66 : Int)))
          (
           LetI (IntKind.i64.wrap (n70 + n3)) fun n73 =>
           LetI (min n73 (↑k66 : Int)) fun n74 =>
           ∃ p75 : Option Addr,
           ∃ k76 : Nat,
           ∃ k77 : Nat,
           (
            w72.cell? { block := b61, off := (1 : Nat) } = some (Value.slice p75 k76 k77)) ∧
           (
            (
             (0 : Int) ≤ n70) ∧
            (
             n70 ≤ n74) ∧
            (
             n74 ≤ n74) ∧
            (
             n74 ≤ (↑k67 : Int)) ∧
            (
             (
              true = true) →
             true = true)) ∧
           RunsV Try.prog (convert (65 : Nat) (9 : Nat) (Value.slice (if n74.toNat = n70.toNat then p65 else Option.map (fun x => x.add (n70.toNat * sizeT Try.prog (5 : Nat))) p65) (n74.toNat - n70.toNat) (n74.toNat - n70.toNat))) w72 fun v78 w79 =>
           ∃ s80 : ByteArray,
           (
            v78 = Value.string s80) ∧
           (
            w79.cell? { block := b61, off := (1 : Nat) } = some (Value.slice p75 k76 k77)) ∧
           LetA (Obj.cells #[Value.string s80] (9 : Nat)) w79 fun b81 w82 =>
           (
            w82.cell? { block := b61, off := (1 : Nat) } = some (Value.slice p75 k76 k77)) ∧
           RunsV Try.prog (Builtin.append_ #[(59 : Nat), (59 : Nat)] (59 : Nat) #[Value.slice p75 k76 k77, Value.slice (some { block := b81, off := (0 : Nat) }) (1 : Nat) (1 : Nat)]) w82 fun v83 w84 =>
           ∃ p85 : Option Addr,
           ∃ k86 : Nat,
           ∃ k87 : Nat,
           (
            v83 = Value.slice p85 k86 k87) ∧
           (
            Wr w84 { block := b61, off := (1 : Nat) }) ∧
           LetW (w84.setCell { block := b61, off := (1 : Nat) } (Value.slice p85 k86 k87)) fun w88 =>
           LetI (IntKind.i64.wrap (n70 + n3)) fun n89 =>
           ∃ k90 : Nat,
           (
            k90 < k71) ∧
           I68 k90 [Value.int IntKind.i64 n89] w88)
          (
           Br (n70 == (0 : Int))
            (
             LetI (IntKind.i64.wrap (n70 + n3)) fun n91 =>
             LetI (min n91 (↑k66 : Int)) fun n92 =>
             ∃ p93 : Option Addr,
             ∃ k94 : Nat,
             ∃ k95 : Nat,
             (
              w72.cell? { block := b61, off := (1 : Nat) } = some (Value.slice p93 k94 k95)) ∧
             (
              (
               (0 : Int) ≤ n70) ∧
              (
               n70 ≤ n92) ∧
              (
               n92 ≤ n92) ∧
              (
               n92 ≤ (↑k67 : Int)) ∧
              (
               (
                true = true) →
               true = true)) ∧
             RunsV Try.prog (convert (65 : Nat) (9 : Nat) (Value.slice (if n92.toNat = n70.toNat then p65 else Option.map (fun x => x.add (n70.toNat * sizeT Try.prog (5 : Nat))) p65) (n92.toNat - n70.toNat) (n92.toNat - n70.toNat))) w72 fun v96 w97 =>
             ∃ s98 : ByteArray,
             (
              v96 = Value.string s98) ∧
             (
              w97.cell? { block := b61, off := (1 : Nat) } = some (Value.slice p93 k94 k95)) ∧
             LetA (Obj.cells #[Value.string s98] (9 : Nat)) w97 fun b99 w100 =>
             (
              w100.cell? { block := b61, off := (1 : Nat) } = some (Value.slice p93 k94 k95)) ∧
             RunsV Try.prog (Builtin.append_ #[(59 : Nat), (59 : Nat)] (59 : Nat) #[Value.slice p93 k94 k95, Value.slice (some { block := b99, off := (0 : Nat) }) (1 : Nat) (1 : Nat)]) w100 fun v101 w102 =>
             ∃ p103 : Option Addr,
             ∃ k104 : Nat,
             ∃ k105 : Nat,
             (
              v101 = Value.slice p103 k104 k105) ∧
             (
              Wr w102 { block := b61, off := (1 : Nat) }) ∧
             LetW (w102.setCell { block := b61, off := (1 : Nat) } (Value.slice p103 k104 k105)) fun w106 =>
             LetI (IntKind.i64.wrap (n70 + n3)) fun n107 =>
             ∃ k108 : Nat,
             (
              k108 < k71) ∧
             I68 k108 [Value.int IntKind.i64 n107] w106)
            (
             R (Ending.returned (Value.tuple #[Value.pointer (some { block := b61, off := (0 : Nat) }), Value.int IntKind.i64 (0 : Int)])) w72)))))
    (
     Ca Try.prog (20 : Nat) #[Value.int IntKind.i64 n4, Value.int IntKind.i64 (1 : Int), Value.int IntKind.i64 (16 : Int)] w58 fun e109 w110 =>
     ∃ b111 : Bool,
     (
      e109 = Ending.returned (Value.bool b111)) ∧
     Br (!b111)
      (
       R (Ending.returned (Value.tuple #[Value.pointer none, Value.int IntKind.i64 (2 : Int)])) w110)
      (
       LetI (IntKind.i64.wrap (n3 * (4096 : Int))) fun n112 =>
       Br (decide ((↑s2.size : Int) > n112))
        (
         R (Ending.returned (Value.tuple #[Value.pointer none, Value.int IntKind.i64 (3 : Int)])) w110)
        (
         LetA (Obj.cells #[Value.int IntKind.i64 n1, Value.slice none (0 : Nat) (0 : Nat), Value.int IntKind.i64 n4, Value.int IntKind.i64 (0 : Int), Value.int IntKind.i64 (0 : Int)] (64 : Nat)) w110 fun b113 w114 =>
         RunsV Try.prog (convert (9 : Nat) (65 : Nat) (Value.string s2)) w114 fun v115 w116 =>
         ∃ p117 : Option Addr,
         ∃ k118 : Nat,
         ∃ k119 : Nat,
         (
          v115 = Value.slice p117 k118 k119) ∧
         ∃ I120 : Nat → List Value → World → Prop,
         (
          ∃ k121 : Nat,
          I120 k121 [Value.int IntKind.i64 (0 : Int)] w116) ∧
         ∀ n122 : Int,
         ∀ k123 : Nat,
         ∀ w124 : World,
         (
          I120 k123 [Value.int IntKind.i64 n122] w124) →
         Br (decide (n122 < (↑k118 : Int)))
          (
           LetI (IntKind.i64.wrap (n122 + n3)) fun n125 =>
           LetI (min n125 (↑k118 : Int)) fun n126 =>
           ∃ p127 : Option Addr,
           ∃ k128 : Nat,
           ∃ k129 : Nat,
           (
            w124.cell? { block := b113, off := (1 : Nat) } = some (Value.slice p127 k128 k129)) ∧
           (
            (
             (0 : Int) ≤ n122) ∧
            (
             n122 ≤ n126) ∧
            (
             n126 ≤ n126) ∧
            (
             n126 ≤ (↑k119 : Int)) ∧
            (
             (
              true = true) →
             true = true)) ∧
           RunsV Try.prog (convert (65 : Nat) (9 : Nat) (Value.slice (if n126.toNat = n122.toNat then p117 else Option.map (fun x => x.add (n122.toNat * sizeT Try.prog (5 : Nat))) p117) (n126.toNat - n122.toNat) (n126.toNat - n122.toNat))) w124 fun v130 w131 =>
           ∃ s132 : ByteArray,
           (
            v130 = Value.string s132) ∧
           (
            w131.cell? { block := b113, off := (1 : Nat) } = some (Value.slice p127 k128 k129)) ∧
           LetA (Obj.cells #[Value.string s132] (9 : Nat)) w131 fun b133 w134 =>
           (
            w134.cell? { block := b113, off := (1 : Nat) } = some (Value.slice p127 k128 k129)) ∧
           RunsV Try.prog (Builtin.append_ #[(59 : Nat), (59 : Nat)] (59 : Nat) #[Value.slice p127 k128 k129, Value.slice (some { block := b133, off := (0 : Nat) }) (1 : Nat) (1 : Nat)]) w134 fun v135 w136 =>
           ∃ p137 : Option Addr,
           ∃ k138 : Nat,
           ∃ k139 : Nat,
           (
            v135 = Value.slice p137 k138 k139) ∧
           (
            Wr w136 { block := b113, off := (1 : Nat) }) ∧
           LetW (w136.setCell { block := b113, off := (1 : Nat) } (Value.slice p137 k138 k139)) fun w140 =>
           LetI (IntKind.i64.wrap (n122 + n3)) fun n141 =>
           ∃ k142 : Nat,
           (
            k142 < k123) ∧
           I120 k142 [Value.int IntKind.i64 n141] w140)
          (
           Br (n122 == (0 : Int))
            (
             LetI (IntKind.i64.wrap (n122 + n3)) fun n143 =>
             LetI (min n143 (↑k118 : Int)) fun n144 =>
             ∃ p145 : Option Addr,
             ∃ k146 : Nat,
             ∃ k147 : Nat,
             (
              w124.cell? { block := b113, off := (1 : Nat) } = some (Value.slice p145 k146 k147)) ∧
             (
              (
               (0 : Int) ≤ n122) ∧
              (
               n122 ≤ n144) ∧
              (
               n144 ≤ n144) ∧
              (
               n144 ≤ (↑k119 : Int)) ∧
              (
               (
                true = true) →
               true = true)) ∧
             RunsV Try.prog (convert (65 : Nat) (9 : Nat) (Value.slice (if n144.toNat = n122.toNat then p117 else Option.map (fun x => x.add (n122.toNat * sizeT Try.prog (5 : Nat))) p117) (n144.toNat - n122.toNat) (n144.toNat - n122.toNat))) w124 fun v148 w149 =>
             ∃ s150 : ByteArray,
             (
              v148 = Value.string s150) ∧
             (
              w149.cell? { block := b113, off := (1 : Nat) } = some (Value.slice p145 k146 k147)) ∧
             LetA (Obj.cells #[Value.string s150] (9 : Nat)) w149 fun b151 w152 =>
             (
              w152.cell? { block := b113, off := (1 : Nat) } = some (Value.slice p145 k146 k147)) ∧
             RunsV Try.prog (Builtin.append_ #[(59 : Nat), (59 : Nat)] (59 : Nat) #[Value.slice p145 k146 k147, Value.slice (some { block := b151, off := (0 : Nat) }) (1 : Nat) (1 : Nat)]) w152 fun v153 w154 =>
             ∃ p155 : Option Addr,
             ∃ k156 : Nat,
             ∃ k157 : Nat,
             (
              v153 = Value.slice p155 k156 k157) ∧
             (
              Wr w154 { block := b113, off := (1 : Nat) }) ∧
             LetW (w154.setCell { block := b113, off := (1 : Nat) } (Value.slice p155 k156 k157)) fun w158 =>
             LetI (IntKind.i64.wrap (n122 + n3)) fun n159 =>
             ∃ k160 : Nat,
             (
              k160 < k123) ∧
             I120 k160 [Value.int IntKind.i64 n159] w158)
            (
             R (Ending.returned (Value.tuple #[Value.pointer (some { block := b113, off := (0 : Nat) }), Value.int IntKind.i64 (0 : Int)])) w124))))))
theorem topen_ok (n1 : Int) (s2 : ByteArray) (n3 : Int) (n4 : Int) (w : World) (R : Ending → World → Prop) (h : topen n1 s2 n3 n4 w R) : Ca Try.prog 8 #[Value.int IntKind.i64 n1, Value.string s2, Value.int IntKind.i64 n3, Value.int IntKind.i64 n4] w R :=
  Ca.of_fvc (c := bodyOf Try.f8) (by kernel_rfl) Try.func8 (by kernel_rfl) [] (Eq.mp (by kernel_rfl) h)

def snext (b1 : Nat) (w : World) (R : Ending → World → Prop) : Prop :=
 LetA (Obj.cells #[Value.int IntKind.i64 (0 : Int), Value.int IntKind.i64 (0 : Int), Value.int IntKind.i64 (0 : Int), Value.string { data := #[] }] (32 : Nat)) w fun b2 w3 =>
 Ca Try.prog (21 : Nat) #[Value.pointer (some { block := b1, off := (0 : Nat) })] w3 fun e4 w5 =>
 ∃ b6 : Bool,
 (
  e4 = Ending.returned (Value.bool b6)) ∧
 Br (b6)
  (
   (
    WrRow w5 { block := b2, off := (0 : Nat) } (0 : Nat) [Value.int IntKind.i64 (0 : Int), Value.int IntKind.i64 (0 : Int), Value.int IntKind.i64 (0 : Int), Value.string { data := #[] }]) ∧
   LetW (setRow w5 { block := b2, off := (0 : Nat) } (0 : Nat) [Value.int IntKind.i64 (0 : Int), Value.int IntKind.i64 (0 : Int), Value.int IntKind.i64 (0 : Int), Value.string { data := #[] }]) fun w7 =>
   ∃ n8 : Int,
   ∃ n9 : Int,
   ∃ n10 : Int,
   ∃ s11 : ByteArray,
   (
    Row w7 { block := b2, off := (0 : Nat) } (0 : Nat) [Value.int IntKind.i64 n8, Value.int IntKind.i64 n9, Value.int IntKind.i64 n10, Value.string s11]) ∧
   R (Ending.returned (Value.tuple #[Value.agg #[Value.int IntKind.i64 n8, Value.int IntKind.i64 n9, Value.int IntKind.i64 n10, Value.string s11], Value.bool false])) w7)
  (
   ∃ n12 : Int,
   (
    w5.cell? { block := b1, off := (4 : Nat) } = some (Value.int IntKind.i64 n12)) ∧
   ∃ p13 : Option Addr,
   ∃ k14 : Nat,
   ∃ k15 : Nat,
   (
    w5.cell? { block := b1, off := (1 : Nat) } = some (Value.slice p13 k14 k15)) ∧
   ∃ n16 : Int,
   (
    w5.cell? { block := b1, off := (3 : Nat) } = some (Value.int IntKind.i64 n16)) ∧
   ∃ n17 : Int,
   (
    w5.cell? { block := b1, off := (2 : Nat) } = some (Value.int IntKind.i64 n17)) ∧
   LetI (IntKind.i64.wrap (n16 + n17)) fun n18 =>
   LetI (min (↑k14 : Int) n18) fun n19 =>
   Br (decide (n12 ≥ n19))
    (
     (
      WrRow w5 { block := b2, off := (0 : Nat) } (0 : Nat) [Value.int IntKind.i64 (0 : Int), Value.int IntKind.i64 (0 : Int), Value.int IntKind.i64 (0 : Int), Value.string { data := #[] }]) ∧
     LetW (setRow w5 { block := b2, off := (0 : Nat) } (0 : Nat) [Value.int IntKind.i64 (0 : Int), Value.int IntKind.i64 (0 : Int), Value.int IntKind.i64 (0 : Int), Value.string { data := #[] }]) fun w20 =>
     ∃ n21 : Int,
     ∃ n22 : Int,
     ∃ n23 : Int,
     ∃ s24 : ByteArray,
     (
      Row w20 { block := b2, off := (0 : Nat) } (0 : Nat) [Value.int IntKind.i64 n21, Value.int IntKind.i64 n22, Value.int IntKind.i64 n23, Value.string s24]) ∧
     R (Ending.returned (Value.tuple #[Value.agg #[Value.int IntKind.i64 n21, Value.int IntKind.i64 n22, Value.int IntKind.i64 n23, Value.string s24], Value.bool false])) w20)
    (
     ∃ n25 : Int,
     (
      w5.cell? { block := b1, off := (4 : Nat) } = some (Value.int IntKind.i64 n25)) ∧
     LetI (IntKind.i64.wrap (n25 + (1 : Int))) fun n26 =>
     (
      Wr w5 { block := b1, off := (4 : Nat) }) ∧
     LetW (w5.setCell { block := b1, off := (4 : Nat) } (Value.int IntKind.i64 n26)) fun w27 =>
     ∃ n28 : Int,
     (
      w27.cell? { block := b1, off := (0 : Nat) } = some (Value.int IntKind.i64 n28)) ∧
     ∃ n29 : Int,
     (
      w27.cell? { block := b1, off := (4 : Nat) } = some (Value.int IntKind.i64 n29)) ∧
     LetI (IntKind.i64.wrap (n29 - (1 : Int))) fun n30 =>
     ∃ p31 : Option Addr,
     ∃ k32 : Nat,
     ∃ k33 : Nat,
     (
      w27.cell? { block := b1, off := (1 : Nat) } = some (Value.slice p31 k32 k33)) ∧
     ∃ p34 : Option Addr,
     ∃ k35 : Nat,
     ∃ k36 : Nat,
     (
      w27.cell? { block := b1, off := (1 : Nat) } = some (Value.slice p34 k35 k36)) ∧
     ∃ n37 : Int,
     (
      w27.cell? { block := b1, off := (4 : Nat) } = some (Value.int IntKind.i64 n37)) ∧
     LetI (IntKind.i64.wrap (n37 - (1 : Int))) fun n38 =>
     NilOk p34 fun a39 =>
     (
      (
       (0 : Int) ≤ n38) ∧
      n38 < (↑k35 : Int)) ∧
     ∃ s40 : ByteArray,
     (
      w27.cell? (a39.add (n38.toNat * (1 : Nat))) = some (Value.string s40)) ∧
     (
      WrRow w27 { block := b2, off := (0 : Nat) } (0 : Nat) [Value.int IntKind.i64 n28, Value.int IntKind.i64 n30, Value.int IntKind.i64 (↑k32 : Int), Value.string s40]) ∧
     LetW (setRow w27 { block := b2, off := (0 : Nat) } (0 : Nat) [Value.int IntKind.i64 n28, Value.int IntKind.i64 n30, Value.int IntKind.i64 (↑k32 : Int), Value.string s40]) fun w41 =>
     ∃ n42 : Int,
     ∃ n43 : Int,
     ∃ n44 : Int,
     ∃ s45 : ByteArray,
     (
      Row w41 { block := b2, off := (0 : Nat) } (0 : Nat) [Value.int IntKind.i64 n42, Value.int IntKind.i64 n43, Value.int IntKind.i64 n44, Value.string s45]) ∧
     R (Ending.returned (Value.tuple #[Value.agg #[Value.int IntKind.i64 n42, Value.int IntKind.i64 n43, Value.int IntKind.i64 n44, Value.string s45], Value.bool true])) w41))
theorem snext_ok (b1 : Nat) (w : World) (R : Ending → World → Prop) (h : snext b1 w R) : Ca Try.prog 9 #[Value.pointer (some { block := b1, off := (0 : Nat) })] w R :=
  Ca.of_fvc (c := bodyOf Try.f9) (by kernel_rfl) Try.func9 (by kernel_rfl) [] (Eq.mp (by kernel_rfl) h)

def sack (b1 : Nat) (n2 : Int) (n3 : Int) (w : World) (R : Ending → World → Prop) : Prop :=
 Ca Try.prog (21 : Nat) #[Value.pointer (some { block := b1, off := (0 : Nat) })] w fun e4 w5 =>
 ∃ b6 : Bool,
 (
  e4 = Ending.returned (Value.bool b6)) ∧
 Br (b6)
  (
   R (Ending.returned (Value.int IntKind.i64 (1 : Int))) w5)
  (
   ∃ n7 : Int,
   (
    w5.cell? { block := b1, off := (0 : Nat) } = some (Value.int IntKind.i64 n7)) ∧
   Br (n2 != n7)
    (
     R (Ending.returned (Value.int IntKind.i64 (71 : Int))) w5)
    (
     ∃ p8 : Option Addr,
     ∃ k9 : Nat,
     ∃ k10 : Nat,
     (
      w5.cell? { block := b1, off := (1 : Nat) } = some (Value.slice p8 k9 k10)) ∧
     Ca Try.prog (20 : Nat) #[Value.int IntKind.i64 n3, Value.int IntKind.i64 (0 : Int), Value.int IntKind.i64 (↑k9 : Int)] w5 fun e11 w12 =>
     ∃ b13 : Bool,
     (
      e11 = Ending.returned (Value.bool b13)) ∧
     Br (!b13)
      (
       R (Ending.returned (Value.int IntKind.i64 (2 : Int))) w12)
      (
       ∃ n14 : Int,
       (
        w12.cell? { block := b1, off := (3 : Nat) } = some (Value.int IntKind.i64 n14)) ∧
       LetI (max n14 n3) fun n15 =>
       (
        Wr w12 { block := b1, off := (3 : Nat) }) ∧
       LetW (w12.setCell { block := b1, off := (3 : Nat) } (Value.int IntKind.i64 n15)) fun w16 =>
       ∃ n17 : Int,
       (
        w16.cell? { block := b1, off := (4 : Nat) } = some (Value.int IntKind.i64 n17)) ∧
       ∃ n18 : Int,
       (
        w16.cell? { block := b1, off := (3 : Nat) } = some (Value.int IntKind.i64 n18)) ∧
       LetI (max n17 n18) fun n19 =>
       (
        Wr w16 { block := b1, off := (4 : Nat) }) ∧
       LetW (w16.setCell { block := b1, off := (4 : Nat) } (Value.int IntKind.i64 n19)) fun w20 =>
       R (Ending.returned (Value.int IntKind.i64 (0 : Int))) w20)))
theorem sack_ok (b1 : Nat) (n2 : Int) (n3 : Int) (w : World) (R : Ending → World → Prop) (h : sack b1 n2 n3 w R) : Ca Try.prog 11 #[Value.pointer (some { block := b1, off := (0 : Nat) }), Value.int IntKind.i64 n2, Value.int IntKind.i64 n3] w R :=
  Ca.of_fvc (c := bodyOf Try.f11) (by kernel_rfl) Try.func11 (by kernel_rfl) [] (Eq.mp (by kernel_rfl) h)

def sback (b1 : Nat) (w : World) (R : Ending → World → Prop) : Prop :=
 Ca Try.prog (21 : Nat) #[Value.pointer (some { block := b1, off := (0 : Nat) })] w fun e2 w3 =>
 ∃ b4 : Bool,
 (
  e2 = Ending.returned (Value.bool b4)) ∧
 Br (!b4)
  (
   ∃ n5 : Int,
   (
    w3.cell? { block := b1, off := (3 : Nat) } = some (Value.int IntKind.i64 n5)) ∧
   (
    Wr w3 { block := b1, off := (4 : Nat) }) ∧
   LetW (w3.setCell { block := b1, off := (4 : Nat) } (Value.int IntKind.i64 n5)) fun w6 =>
   R (Ending.returned (Value.tuple #[])) w6)
  (
   R (Ending.returned (Value.tuple #[])) w3)
theorem sback_ok (b1 : Nat) (w : World) (R : Ending → World → Prop) (h : sback b1 w R) : Ca Try.prog 16 #[Value.pointer (some { block := b1, off := (0 : Nat) })] w R :=
  Ca.of_fvc (c := bodyOf Try.f16) (by kernel_rfl) Try.func16 (by kernel_rfl) [] (Eq.mp (by kernel_rfl) h)

def shave (b1 : Nat) (w : World) (R : Ending → World → Prop) : Prop :=
 Ca Try.prog (21 : Nat) #[Value.pointer (some { block := b1, off := (0 : Nat) })] w fun e2 w3 =>
 ∃ b4 : Bool,
 (
  e2 = Ending.returned (Value.bool b4)) ∧
 Br (b4)
  (
   R (Ending.returned (Value.int IntKind.i64 (0 : Int))) w3)
  (
   ∃ n5 : Int,
   (
    w3.cell? { block := b1, off := (3 : Nat) } = some (Value.int IntKind.i64 n5)) ∧
   R (Ending.returned (Value.int IntKind.i64 n5)) w3)
theorem shave_ok (b1 : Nat) (w : World) (R : Ending → World → Prop) (h : shave b1 w R) : Ca Try.prog 18 #[Value.pointer (some { block := b1, off := (0 : Nat) })] w R :=
  Ca.of_fvc (c := bodyOf Try.f18) (by kernel_rfl) Try.func18 (by kernel_rfl) [] (Eq.mp (by kernel_rfl) h)

def sdone (b1 : Nat) (w : World) (R : Ending → World → Prop) : Prop :=
 Ca Try.prog (21 : Nat) #[Value.pointer (some { block := b1, off := (0 : Nat) })] w fun e2 w3 =>
 ∃ b4 : Bool,
 (
  e2 = Ending.returned (Value.bool b4)) ∧
 Br (!b4)
  (
   ∃ n5 : Int,
   (
    w3.cell? { block := b1, off := (3 : Nat) } = some (Value.int IntKind.i64 n5)) ∧
   ∃ p6 : Option Addr,
   ∃ k7 : Nat,
   ∃ k8 : Nat,
   (
    w3.cell? { block := b1, off := (1 : Nat) } = some (Value.slice p6 k7 k8)) ∧
   R (Ending.returned (Value.bool (n5 == (↑k7 : Int)))) w3)
  (
   R (Ending.returned (Value.bool false)) w3)
theorem sdone_ok (b1 : Nat) (w : World) (R : Ending → World → Prop) (h : sdone b1 w R) : Ca Try.prog 13 #[Value.pointer (some { block := b1, off := (0 : Nat) })] w R :=
  Ca.of_fvc (c := bodyOf Try.f13) (by kernel_rfl) Try.func13 (by kernel_rfl) [] (Eq.mp (by kernel_rfl) h)

def rmay (b1 : Nat) (n2 : Int) (n3 : Int) (n4 : Int) (s5 : ByteArray) (w : World) (R : Ending → World → Prop) : Prop :=
 LetA (Obj.cells #[Value.int IntKind.i64 n2, Value.int IntKind.i64 n3, Value.int IntKind.i64 n4, Value.string s5] (32 : Nat)) w fun b6 w7 =>
 ∃ n8 : Int,
 (
  w7.cell? { block := b6, off := (0 : Nat) } = some (Value.int IntKind.i64 n8)) ∧
 ∃ n9 : Int,
 (
  w7.cell? { block := b1, off := (1 : Nat) } = some (Value.int IntKind.i64 n9)) ∧
 LetI (max n9 (1 : Int)) fun n10 =>
 Br (decide (n8 ≥ n10))
  (
   ∃ n11 : Int,
   (
    w7.cell? { block := b6, off := (2 : Nat) } = some (Value.int IntKind.i64 n11)) ∧
   Ca Try.prog (20 : Nat) #[Value.int IntKind.i64 n11, Value.int IntKind.i64 (1 : Int), Value.int IntKind.i64 (4096 : Int)] w7 fun e12 w13 =>
   ∃ b14 : Bool,
   (
    e12 = Ending.returned (Value.bool b14)) ∧
   Br (b14)
    (
     ∃ n15 : Int,
     (
      w13.cell? { block := b6, off := (1 : Nat) } = some (Value.int IntKind.i64 n15)) ∧
     ∃ n16 : Int,
     (
      w13.cell? { block := b6, off := (2 : Nat) } = some (Value.int IntKind.i64 n16)) ∧
     LetI (IntKind.i64.wrap (n16 - (1 : Int))) fun n17 =>
     Ca Try.prog (20 : Nat) #[Value.int IntKind.i64 n15, Value.int IntKind.i64 (0 : Int), Value.int IntKind.i64 n17] w13 fun e18 w19 =>
     ∃ b20 : Bool,
     (
      e18 = Ending.returned (Value.bool b20)) ∧
     Br (b20)
      (
       ∃ s21 : ByteArray,
       (
        w19.cell? { block := b6, off := (3 : Nat) } = some (Value.string s21)) ∧
       Br (decide ((↑s21.size : Int) ≤ (512 : Int)))
        (
         ∃ n22 : Int,
         (
          w19.cell? { block := b6, off := (0 : Nat) } = some (Value.int IntKind.i64 n22)) ∧
         ∃ n23 : Int,
         (
          w19.cell? { block := b1, off := (1 : Nat) } = some (Value.int IntKind.i64 n23)) ∧
         Br (decide (n22 > n23))
          (
           R (Ending.returned (Value.bool true)) w19)
          (
           ∃ n24 : Int,
           (
            w19.cell? { block := b6, off := (2 : Nat) } = some (Value.int IntKind.i64 n24)) ∧
           ∃ n25 : Int,
           (
            w19.cell? { block := b1, off := (2 : Nat) } = some (Value.int IntKind.i64 n25)) ∧
           R (Ending.returned (Value.bool (n24 == n25))) w19))
        (
         R (Ending.returned (Value.bool false)) w19))
      (
       R (Ending.returned (Value.bool false)) w19))
    (
     R (Ending.returned (Value.bool false)) w13))
  (
   R (Ending.returned (Value.bool false)) w7)
theorem rmay_ok (b1 : Nat) (n2 : Int) (n3 : Int) (n4 : Int) (s5 : ByteArray) (w : World) (R : Ending → World → Prop) (h : rmay b1 n2 n3 n4 s5 w R) : Ca Try.prog 22 #[Value.pointer (some { block := b1, off := (0 : Nat) }), Value.agg #[Value.int IntKind.i64 n2, Value.int IntKind.i64 n3, Value.int IntKind.i64 n4, Value.string s5]] w R :=
  Ca.of_fvc (c := bodyOf Try.f22) (by kernel_rfl) Try.func22 (by kernel_rfl) [] (Eq.mp (by kernel_rfl) h)

def rtake (b1 : Nat) (n2 : Int) (n3 : Int) (n4 : Int) (s5 : ByteArray) (w : World) (R : Ending → World → Prop) : Prop :=
 LetA (Obj.cells #[Value.int IntKind.i64 n2, Value.int IntKind.i64 n3, Value.int IntKind.i64 n4, Value.string s5] (32 : Nat)) w fun b6 w7 =>
 ∃ b8 : Bool,
 (
  w7.cell? { block := b1, off := (0 : Nat) } = some (Value.bool b8)) ∧
 Br (!b8)
  (
   R (Ending.returned (Value.tuple #[Value.int IntKind.i64 (0 : Int), Value.int IntKind.i64 (0 : Int)])) w7)
  (
   ∃ n9 : Int,
   ∃ n10 : Int,
   ∃ n11 : Int,
   ∃ s12 : ByteArray,
   (
    Row w7 { block := b6, off := (0 : Nat) } (0 : Nat) [Value.int IntKind.i64 n9, Value.int IntKind.i64 n10, Value.int IntKind.i64 n11, Value.string s12]) ∧
   Ca Try.prog (22 : Nat) #[Value.pointer (some { block := b1, off := (0 : Nat) }), Value.agg #[Value.int IntKind.i64 n9, Value.int IntKind.i64 n10, Value.int IntKind.i64 n11, Value.string s12]] w7 fun e13 w14 =>
   ∃ b15 : Bool,
   (
    e13 = Ending.returned (Value.bool b15)) ∧
   Br (b15)
    (
     ∃ n16 : Int,
     (
      w14.cell? { block := b6, off := (0 : Nat) } = some (Value.int IntKind.i64 n16)) ∧
     ∃ n17 : Int,
     (
      w14.cell? { block := b1, off := (1 : Nat) } = some (Value.int IntKind.i64 n17)) ∧
     Br (decide (n16 > n17))
      (
       ∃ n18 : Int,
       (
        w14.cell? { block := b6, off := (0 : Nat) } = some (Value.int IntKind.i64 n18)) ∧
       ∃ n19 : Int,
       (
        w14.cell? { block := b6, off := (2 : Nat) } = some (Value.int IntKind.i64 n19)) ∧
       (
        Wr w14 { block := b1, off := (1 : Nat) }) ∧
       LetW (w14.setCell { block := b1, off := (1 : Nat) } (Value.int IntKind.i64 n18)) fun w20 =>
       (
        w20.cell? { block := b6, off := (2 : Nat) } = some (Value.int IntKind.i64 n19)) ∧
       (
        Wr w20 { block := b1, off := (2 : Nat) }) ∧
       LetW (w20.setCell { block := b1, off := (2 : Nat) } (Value.int IntKind.i64 n19)) fun w21 =>
       (
        Wr w21 { block := b1, off := (3 : Nat) }) ∧
       LetW (w21.setCell { block := b1, off := (3 : Nat) } (Value.slice none (0 : Nat) (0 : Nat))) fun w22 =>
       ∃ n23 : Int,
       (
        w22.cell? { block := b6, off := (1 : Nat) } = some (Value.int IntKind.i64 n23)) ∧
       ∃ p24 : Option Addr,
       ∃ k25 : Nat,
       ∃ k26 : Nat,
       (
        w22.cell? { block := b1, off := (3 : Nat) } = some (Value.slice p24 k25 k26)) ∧
       Br (n23 == (↑k25 : Int))
        (
         ∃ p27 : Option Addr,
         ∃ k28 : Nat,
         ∃ k29 : Nat,
         (
          w22.cell? { block := b1, off := (3 : Nat) } = some (Value.slice p27 k28 k29)) ∧
         ∃ s30 : ByteArray,
         (
          w22.cell? { block := b6, off := (3 : Nat) } = some (Value.string s30)) ∧
         LetA (Obj.cells #[Value.string s30] (9 : Nat)) w22 fun b31 w32 =>
         (
          w32.cell? { block := b1, off := (3 : Nat) } = some (Value.slice p27 k28 k29)) ∧
         RunsV Try.prog (Builtin.append_ #[(59 : Nat), (59 : Nat)] (59 : Nat) #[Value.slice p27 k28 k29, Value.slice (some { block := b31, off := (0 : Nat) }) (1 : Nat) (1 : Nat)]) w32 fun v33 w34 =>
         ∃ p35 : Option Addr,
         ∃ k36 : Nat,
         ∃ k37 : Nat,
         (
          v33 = Value.slice p35 k36 k37) ∧
         (
          Wr w34 { block := b1, off := (3 : Nat) }) ∧
         LetW (w34.setCell { block := b1, off := (3 : Nat) } (Value.slice p35 k36 k37)) fun w38 =>
         ∃ n39 : Int,
         (
          w38.cell? { block := b1, off := (1 : Nat) } = some (Value.int IntKind.i64 n39)) ∧
         ∃ p40 : Option Addr,
         ∃ k41 : Nat,
         ∃ k42 : Nat,
         (
          w38.cell? { block := b1, off := (3 : Nat) } = some (Value.slice p40 k41 k42)) ∧
         R (Ending.returned (Value.tuple #[Value.int IntKind.i64 n39, Value.int IntKind.i64 (↑k41 : Int)])) w38)
        (
         ∃ n43 : Int,
         (
          w22.cell? { block := b1, off := (1 : Nat) } = some (Value.int IntKind.i64 n43)) ∧
         ∃ p44 : Option Addr,
         ∃ k45 : Nat,
         ∃ k46 : Nat,
         (
          w22.cell? { block := b1, off := (3 : Nat) } = some (Value.slice p44 k45 k46)) ∧
         R (Ending.returned (Value.tuple #[Value.int IntKind.i64 n43, Value.int IntKind.i64 (↑k45 : Int)])) w22))
      (
       ∃ n47 : Int,
       (
        w14.cell? { block := b6, off := (1 : Nat) } = some (Value.int IntKind.i64 n47)) ∧
       ∃ p48 : Option Addr,
       ∃ k49 : Nat,
       ∃ k50 : Nat,
       (
        w14.cell? { block := b1, off := (3 : Nat) } = some (Value.slice p48 k49 k50)) ∧
       Br (n47 == (↑k49 : Int))
        (
         ∃ p51 : Option Addr,
         ∃ k52 : Nat,
         ∃ k53 : Nat,
         (
          w14.cell? { block := b1, off := (3 : Nat) } = some (Value.slice p51 k52 k53)) ∧
         ∃ s54 : ByteArray,
         (
          w14.cell? { block := b6, off := (3 : Nat) } = some (Value.string s54)) ∧
         LetA (Obj.cells #[Value.string s54] (9 : Nat)) w14 fun b55 w56 =>
         (
          w56.cell? { block := b1, off := (3 : Nat) } = some (Value.slice p51 k52 k53)) ∧
         RunsV Try.prog (Builtin.append_ #[(59 : Nat), (59 : Nat)] (59 : Nat) #[Value.slice p51 k52 k53, Value.slice (some { block := b55, off := (0 : Nat) }) (1 : Nat) (1 : Nat)]) w56 fun v57 w58 =>
         ∃ p59 : Option Addr,
         ∃ k60 : Nat,
         ∃ k61 : Nat,
         (
          v57 = Value.slice p59 k60 k61) ∧
         (
          Wr w58 { block := b1, off := (3 : Nat) }) ∧
         LetW (w58.setCell { block := b1, off := (3 : Nat) } (Value.slice p59 k60 k61)) fun w62 =>
         ∃ n63 : Int,
         (
          w62.cell? { block := b1, off := (1 : Nat) } = some (Value.int IntKind.i64 n63)) ∧
         ∃ p64 : Option Addr,
         ∃ k65 : Nat,
         ∃ k66 : Nat,
         (
          w62.cell? { block := b1, off := (3 : Nat) } = some (Value.slice p64 k65 k66)) ∧
         R (Ending.returned (Value.tuple #[Value.int IntKind.i64 n63, Value.int IntKind.i64 (↑k65 : Int)])) w62)
        (
         ∃ n67 : Int,
         (
          w14.cell? { block := b1, off := (1 : Nat) } = some (Value.int IntKind.i64 n67)) ∧
         ∃ p68 : Option Addr,
         ∃ k69 : Nat,
         ∃ k70 : Nat,
         (
          w14.cell? { block := b1, off := (3 : Nat) } = some (Value.slice p68 k69 k70)) ∧
         R (Ending.returned (Value.tuple #[Value.int IntKind.i64 n67, Value.int IntKind.i64 (↑k69 : Int)])) w14)))
    (
     ∃ n71 : Int,
     (
      w14.cell? { block := b1, off := (1 : Nat) } = some (Value.int IntKind.i64 n71)) ∧
     ∃ p72 : Option Addr,
     ∃ k73 : Nat,
     ∃ k74 : Nat,
     (
      w14.cell? { block := b1, off := (3 : Nat) } = some (Value.slice p72 k73 k74)) ∧
     R (Ending.returned (Value.tuple #[Value.int IntKind.i64 n71, Value.int IntKind.i64 (↑k73 : Int)])) w14))
theorem rtake_ok (b1 : Nat) (n2 : Int) (n3 : Int) (n4 : Int) (s5 : ByteArray) (w : World) (R : Ending → World → Prop) (h : rtake b1 n2 n3 n4 s5 w R) : Ca Try.prog 10 #[Value.pointer (some { block := b1, off := (0 : Nat) }), Value.agg #[Value.int IntKind.i64 n2, Value.int IntKind.i64 n3, Value.int IntKind.i64 n4, Value.string s5]] w R :=
  Ca.of_fvc (c := bodyOf Try.f10) (by kernel_rfl) Try.func10 (by kernel_rfl) [] (Eq.mp (by kernel_rfl) h)

def rtext (b1 : Nat) (w : World) (R : Ending → World → Prop) : Prop :=
 ∃ n2 : Int,
 (
  w.cell? { block := b1, off := (2 : Nat) } = some (Value.int IntKind.i64 n2)) ∧
 Br (n2 == (0 : Int))
  (
   R (Ending.returned (Value.tuple #[Value.string { data := #[] }, Value.bool false])) w)
  (
   ∃ p3 : Option Addr,
   ∃ k4 : Nat,
   ∃ k5 : Nat,
   (
    w.cell? { block := b1, off := (3 : Nat) } = some (Value.slice p3 k4 k5)) ∧
   ∃ n6 : Int,
   (
    w.cell? { block := b1, off := (2 : Nat) } = some (Value.int IntKind.i64 n6)) ∧
   Br (decide ((↑k4 : Int) < n6))
    (
     R (Ending.returned (Value.tuple #[Value.string { data := #[] }, Value.bool false])) w)
    (
     ∃ p7 : Option Addr,
     ∃ k8 : Nat,
     ∃ k9 : Nat,
     (
      w.cell? { block := b1, off := (3 : Nat) } = some (Value.slice p7 k8 k9)) ∧
     Ca Try.prog (23 : Nat) #[Value.slice p7 k8 k9, Value.string { data := #[] }] w fun e10 w11 =>
     ∃ s12 : ByteArray,
     (
      e10 = Ending.returned (Value.string s12)) ∧
     R (Ending.returned (Value.tuple #[Value.string s12, Value.bool true])) w11))
theorem rtext_ok (b1 : Nat) (w : World) (R : Ending → World → Prop) (h : rtext b1 w R) : Ca Try.prog 12 #[Value.pointer (some { block := b1, off := (0 : Nat) })] w R :=
  Ca.of_fvc (c := bodyOf Try.f12) (by kernel_rfl) Try.func12 (by kernel_rfl) [] (Eq.mp (by kernel_rfl) h)

def ftotal (b1 : Nat) (w : World) (R : Ending → World → Prop) : Prop :=
 ∃ s2 : ByteArray,
 (
  w.cell? { block := b1, off := (5 : Nat) } = some (Value.string s2)) ∧
 ∃ n3 : Int,
 (
  w.cell? { block := b1, off := (1 : Nat) } = some (Value.int IntKind.i64 n3)) ∧
 (
  n3 ≠ (0 : Int)) ∧
 LetI (IntKind.i64.wrap ((↑s2.size : Int).tdiv n3)) fun n4 =>
 ∃ n5 : Int,
 (
  w.cell? { block := b1, off := (1 : Nat) } = some (Value.int IntKind.i64 n5)) ∧
 LetI (IntKind.i64.wrap (n4 * n5)) fun n6 =>
 ∃ s7 : ByteArray,
 (
  w.cell? { block := b1, off := (5 : Nat) } = some (Value.string s7)) ∧
 Br (decide (n6 < (↑s7.size : Int)))
  (
   LetI (IntKind.i64.wrap (n4 + (1 : Int))) fun n8 =>
   R (Ending.returned (Value.int IntKind.i64 n8)) w)
  (
   Br (n4 == (0 : Int))
    (
     LetI (IntKind.i64.wrap (n4 + (1 : Int))) fun n9 =>
     R (Ending.returned (Value.int IntKind.i64 n9)) w)
    (
     R (Ending.returned (Value.int IntKind.i64 n4)) w))
theorem ftotal_ok (b1 : Nat) (w : World) (R : Ending → World → Prop) (h : ftotal b1 w R) : Ca Try.prog 19 #[Value.pointer (some { block := b1, off := (0 : Nat) })] w R :=
  Ca.of_fvc (c := bodyOf Try.f19) (by kernel_rfl) Try.func19 (by kernel_rfl) [] (Eq.mp (by kernel_rfl) h)

def fopen (n1 : Int) (s2 : ByteArray) (n3 : Int) (n4 : Int) (w : World) (R : Ending → World → Prop) : Prop :=
 Br (decide (n1 < (1 : Int)))
  (
   R (Ending.returned (Value.tuple #[Value.pointer none, Value.int IntKind.i64 (2 : Int)])) w)
  (
   Br (decide (n1 > (1099511627776 : Int)))
    (
     R (Ending.returned (Value.tuple #[Value.pointer none, Value.int IntKind.i64 (2 : Int)])) w)
    (
     Br (decide (n3 < (1 : Int)))
      (
       R (Ending.returned (Value.tuple #[Value.pointer none, Value.int IntKind.i64 (2 : Int)])) w)
      (
       Br (decide (n3 > (512 : Int)))
        (
         R (Ending.returned (Value.tuple #[Value.pointer none, Value.int IntKind.i64 (2 : Int)])) w)
        (
         Br (decide (n4 < (1 : Int)))
          (
           R (Ending.returned (Value.tuple #[Value.pointer none, Value.int IntKind.i64 (2 : Int)])) w)
          (
           Br (decide (n4 > (16 : Int)))
            (
             R (Ending.returned (Value.tuple #[Value.pointer none, Value.int IntKind.i64 (2 : Int)])) w)
            (
             LetA (Obj.cells #[Value.int IntKind.i64 n1, Value.int IntKind.i64 n3, Value.int IntKind.i64 n4, Value.int IntKind.i64 (0 : Int), Value.int IntKind.i64 (0 : Int), Value.string s2] (49 : Nat)) w fun b5 w6 =>
             Ca Try.prog (19 : Nat) #[Value.pointer (some { block := b5, off := (0 : Nat) })] w6 fun e7 w8 =>
             ∃ n9 : Int,
             (
              e7 = Ending.returned (Value.int IntKind.i64 n9)) ∧
             Br (decide (n9 > (4096 : Int)))
              (
               R (Ending.returned (Value.tuple #[Value.pointer none, Value.int IntKind.i64 (3 : Int)])) w8)
              (
               R (Ending.returned (Value.tuple #[Value.pointer (some { block := b5, off := (0 : Nat) }), Value.int IntKind.i64 (0 : Int)])) w8)))))))
theorem fopen_ok (n1 : Int) (s2 : ByteArray) (n3 : Int) (n4 : Int) (w : World) (R : Ending → World → Prop) (h : fopen n1 s2 n3 n4 w R) : Ca Try.prog 14 #[Value.int IntKind.i64 n1, Value.string s2, Value.int IntKind.i64 n3, Value.int IntKind.i64 n4] w R :=
  Ca.of_fvc (c := bodyOf Try.f14) (by kernel_rfl) Try.func14 (by kernel_rfl) [] (Eq.mp (by kernel_rfl) h)

def fnext (b1 : Nat) (w : World) (R : Ending → World → Prop) : Prop :=
 LetA (Obj.cells #[Value.int IntKind.i64 (0 : Int), Value.int IntKind.i64 (0 : Int), Value.int IntKind.i64 (0 : Int), Value.string { data := #[] }] (50 : Nat)) w fun b2 w3 =>
 ∃ n4 : Int,
 (
  w3.cell? { block := b1, off := (4 : Nat) } = some (Value.int IntKind.i64 n4)) ∧
 Ca Try.prog (19 : Nat) #[Value.pointer (some { block := b1, off := (0 : Nat) })] w3 fun e5 w6 =>
 ∃ n7 : Int,
 (
  e5 = Ending.returned (Value.int IntKind.i64 n7)) ∧
 (
  w6.cell? { block := b1, off := (4 : Nat) } = some (Value.int IntKind.i64 n4)) ∧
 Br (n4 == n7)
  (
   (
    WrRow w6 { block := b2, off := (0 : Nat) } (0 : Nat) [Value.int IntKind.i64 (0 : Int), Value.int IntKind.i64 (0 : Int), Value.int IntKind.i64 (0 : Int), Value.string { data := #[] }]) ∧
   LetW (setRow w6 { block := b2, off := (0 : Nat) } (0 : Nat) [Value.int IntKind.i64 (0 : Int), Value.int IntKind.i64 (0 : Int), Value.int IntKind.i64 (0 : Int), Value.string { data := #[] }]) fun w8 =>
   ∃ n9 : Int,
   ∃ n10 : Int,
   ∃ n11 : Int,
   ∃ s12 : ByteArray,
   (
    Row w8 { block := b2, off := (0 : Nat) } (0 : Nat) [Value.int IntKind.i64 n9, Value.int IntKind.i64 n10, Value.int IntKind.i64 n11, Value.string s12]) ∧
   R (Ending.returned (Value.tuple #[Value.agg #[Value.int IntKind.i64 n9, Value.int IntKind.i64 n10, Value.int IntKind.i64 n11, Value.string s12], Value.bool false])) w8)
  (
   ∃ n13 : Int,
   (
    w6.cell? { block := b1, off := (4 : Nat) } = some (Value.int IntKind.i64 n13)) ∧
   ∃ n14 : Int,
   (
    w6.cell? { block := b1, off := (3 : Nat) } = some (Value.int IntKind.i64 n14)) ∧
   ∃ n15 : Int,
   (
    w6.cell? { block := b1, off := (2 : Nat) } = some (Value.int IntKind.i64 n15)) ∧
   LetI (IntKind.i64.wrap (n14 + n15)) fun n16 =>
   Br (decide (n13 ≥ n16))
    (
     (
      WrRow w6 { block := b2, off := (0 : Nat) } (0 : Nat) [Value.int IntKind.i64 (0 : Int), Value.int IntKind.i64 (0 : Int), Value.int IntKind.i64 (0 : Int), Value.string { data := #[] }]) ∧
     LetW (setRow w6 { block := b2, off := (0 : Nat) } (0 : Nat) [Value.int IntKind.i64 (0 : Int), Value.int IntKind.i64 (0 : Int), Value.int IntKind.i64 (0 : Int), Value.string { data := #[] }]) fun w17 =>
     ∃ n18 : Int,
     ∃ n19 : Int,
     ∃ n20 : Int,
     ∃ s21 : ByteArray,
     (
      Row w17 { block := b2, off := (0 : Nat) } (0 : Nat) [Value.int IntKind.i64 n18, Value.int IntKind.i64 n19, Value.int IntKind.i64 n20, Value.string s21]) ∧
     R (Ending.returned (Value.tuple #[Value.agg #[Value.int IntKind.i64 n18, Value.int IntKind.i64 n19, Value.int IntKind.i64 n20, Value.string s21], Value.bool false])) w17)
    (
     ∃ n22 : Int,
     (
      w6.cell? { block := b1, off := (4 : Nat) } = some (Value.int IntKind.i64 n22)) ∧
     ∃ n23 : Int,
     (
      w6.cell? { block := b1, off := (1 : Nat) } = some (Value.int IntKind.i64 n23)) ∧
     LetI (IntKind.i64.wrap (n22 * n23)) fun n24 =>
     ∃ n25 : Int,
     (
      w6.cell? { block := b1, off := (4 : Nat) } = some (Value.int IntKind.i64 n25)) ∧
     LetI (IntKind.i64.wrap (n25 + (1 : Int))) fun n26 =>
     (
      Wr w6 { block := b1, off := (4 : Nat) }) ∧
     LetW (w6.setCell { block := b1, off := (4 : Nat) } (Value.int IntKind.i64 n26)) fun w27 =>
     ∃ n28 : Int,
     (
      w27.cell? { block := b1, off := (0 : Nat) } = some (Value.int IntKind.i64 n28)) ∧
     ∃ n29 : Int,
     (
      w27.cell? { block := b1, off := (4 : Nat) } = some (Value.int IntKind.i64 n29)) ∧
     LetI (IntKind.i64.wrap (n29 - (1 : Int))) fun n30 =>
     ∃ s31 : ByteArray,
     (
      w27.cell? { block := b1, off := (5 : Nat) } = some (Value.string s31)) ∧
     ∃ n32 : Int,
     (
      w27.cell? { block := b1, off := (1 : Nat) } = some (Value.int IntKind.i64 n32)) ∧
     LetI (IntKind.i64.wrap (n24 + n32)) fun n33 =>
     ∃ s34 : ByteArray,
     (
      w27.cell? { block := b1, off := (5 : Nat) } = some (Value.string s34)) ∧
     LetI (min n33 (↑s34.size : Int)) fun n35 =>
     (
      (
       (0 : Int) ≤ n24) ∧
      (
       n24 ≤ n35) ∧
      n35 ≤ (↑s31.size : Int)) ∧
     Ca Try.prog (19 : Nat) #[Value.pointer (some { block := b1, off := (0 : Nat) })] w27 fun e36 w37 =>
     ∃ n38 : Int,
     (
      e36 = Ending.returned (Value.int IntKind.i64 n38)) ∧
     (
      w37.cell? { block := b1, off := (5 : Nat) } = some (Value.string s34)) ∧
     (
      w37.cell? { block := b1, off := (1 : Nat) } = some (Value.int IntKind.i64 n32)) ∧
     (
      w37.cell? { block := b1, off := (5 : Nat) } = some (Value.string s31)) ∧
     (
      w37.cell? { block := b1, off := (4 : Nat) } = some (Value.int IntKind.i64 n29)) ∧
     (
      w37.cell? { block := b1, off := (0 : Nat) } = some (Value.int IntKind.i64 n28)) ∧
     (
      WrRow w37 { block := b2, off := (0 : Nat) } (0 : Nat) [Value.int IntKind.i64 n28, Value.int IntKind.i64 n30, Value.int IntKind.i64 n38, Value.string (s31.extract n24.toNat n35.toNat)]) ∧
     LetW (setRow w37 { block := b2, off := (0 : Nat) } (0 : Nat) [Value.int IntKind.i64 n28, Value.int IntKind.i64 n30, Value.int IntKind.i64 n38, Value.string (s31.extract n24.toNat n35.toNat)]) fun w39 =>
     ∃ n40 : Int,
     ∃ n41 : Int,
     ∃ n42 : Int,
     ∃ s43 : ByteArray,
     (
      Row w39 { block := b2, off := (0 : Nat) } (0 : Nat) [Value.int IntKind.i64 n40, Value.int IntKind.i64 n41, Value.int IntKind.i64 n42, Value.string s43]) ∧
     R (Ending.returned (Value.tuple #[Value.agg #[Value.int IntKind.i64 n40, Value.int IntKind.i64 n41, Value.int IntKind.i64 n42, Value.string s43], Value.bool true])) w39))
theorem fnext_ok (b1 : Nat) (w : World) (R : Ending → World → Prop) (h : fnext b1 w R) : Ca Try.prog 17 #[Value.pointer (some { block := b1, off := (0 : Nat) })] w R :=
  Ca.of_fvc (c := bodyOf Try.f17) (by kernel_rfl) Try.func17 (by kernel_rfl) [] (Eq.mp (by kernel_rfl) h)

def fack (b1 : Nat) (n2 : Int) (n3 : Int) (w : World) (R : Ending → World → Prop) : Prop :=
 ∃ n4 : Int,
 (
  w.cell? { block := b1, off := (0 : Nat) } = some (Value.int IntKind.i64 n4)) ∧
 Br (n2 != n4)
  (
   R (Ending.returned (Value.int IntKind.i64 (71 : Int))) w)
  (
   Br (decide (n3 < (0 : Int)))
    (
     R (Ending.returned (Value.int IntKind.i64 (2 : Int))) w)
    (
     Ca Try.prog (19 : Nat) #[Value.pointer (some { block := b1, off := (0 : Nat) })] w fun e5 w6 =>
     ∃ n7 : Int,
     (
      e5 = Ending.returned (Value.int IntKind.i64 n7)) ∧
     Br (decide (n3 > n7))
      (
       R (Ending.returned (Value.int IntKind.i64 (2 : Int))) w6)
      (
       ∃ n8 : Int,
       (
        w6.cell? { block := b1, off := (3 : Nat) } = some (Value.int IntKind.i64 n8)) ∧
       Br (decide (n3 > n8))
        (
         (
          Wr w6 { block := b1, off := (3 : Nat) }) ∧
         LetW (w6.setCell { block := b1, off := (3 : Nat) } (Value.int IntKind.i64 n3)) fun w9 =>
         ∃ n10 : Int,
         (
          w9.cell? { block := b1, off := (4 : Nat) } = some (Value.int IntKind.i64 n10)) ∧
         ∃ n11 : Int,
         (
          w9.cell? { block := b1, off := (3 : Nat) } = some (Value.int IntKind.i64 n11)) ∧
         Br (decide (n10 < n11))
          (
           ∃ n12 : Int,
           (
            w9.cell? { block := b1, off := (3 : Nat) } = some (Value.int IntKind.i64 n12)) ∧
           (
            Wr w9 { block := b1, off := (4 : Nat) }) ∧
           LetW (w9.setCell { block := b1, off := (4 : Nat) } (Value.int IntKind.i64 n12)) fun w13 =>
           R (Ending.returned (Value.int IntKind.i64 (0 : Int))) w13)
          (
           R (Ending.returned (Value.int IntKind.i64 (0 : Int))) w9))
        (
         ∃ n14 : Int,
         (
          w6.cell? { block := b1, off := (4 : Nat) } = some (Value.int IntKind.i64 n14)) ∧
         ∃ n15 : Int,
         (
          w6.cell? { block := b1, off := (3 : Nat) } = some (Value.int IntKind.i64 n15)) ∧
         Br (decide (n14 < n15))
          (
           ∃ n16 : Int,
           (
            w6.cell? { block := b1, off := (3 : Nat) } = some (Value.int IntKind.i64 n16)) ∧
           (
            Wr w6 { block := b1, off := (4 : Nat) }) ∧
           LetW (w6.setCell { block := b1, off := (4 : Nat) } (Value.int IntKind.i64 n16)) fun w17 =>
           R (Ending.returned (Value.int IntKind.i64 (0 : Int))) w17)
          (
           R (Ending.returned (Value.int IntKind.i64 (0 : Int))) w6)))))
theorem fack_ok (b1 : Nat) (n2 : Int) (n3 : Int) (w : World) (R : Ending → World → Prop) (h : fack b1 n2 n3 w R) : Ca Try.prog 15 #[Value.pointer (some { block := b1, off := (0 : Nat) }), Value.int IntKind.i64 n2, Value.int IntKind.i64 n3] w R :=
  Ca.of_fvc (c := bodyOf Try.f15) (by kernel_rfl) Try.func15 (by kernel_rfl) [] (Eq.mp (by kernel_rfl) h)

def sjoin (p1 : Option Addr) (k2 : Nat) (k3 : Nat) (s4 : ByteArray) (w : World) (R : Ending → World → Prop) : Prop :=
 Br ((↑k2 : Int) == (0 : Int))
  (
   R (Ending.returned (Value.string { data := #[] })) w)
  (
   Br ((↑k2 : Int) == (1 : Int))
    (
     NilOk p1 fun a5 =>
     (
      (
       (0 : Int) ≤ (0 : Int)) ∧
      (0 : Int) < (↑k2 : Int)) ∧
     ∃ s6 : ByteArray,
     (
      w.cell? a5 = some (Value.string s6)) ∧
     R (Ending.returned (Value.string s6)) w)
    (
     Br (decide ((↑s4.size : Int) > (0 : Int)))
      (
       LetI (IntKind.i64.wrap ((↑k2 : Int) - (1 : Int))) fun n7 =>
       (
        n7 ≠ (0 : Int)) ∧
       LetI (IntKind.i64.wrap (Int.tdiv (9223372036854775807 : Int) n7)) fun n8 =>
       Br (decide ((↑s4.size : Int) ≥ n8))
        (
         False)
        (
         LetI (IntKind.i64.wrap ((↑k2 : Int) - (1 : Int))) fun n9 =>
         LetI (IntKind.i64.wrap ((↑s4.size : Int) * n9)) fun n10 =>
         LetI (IntKind.i64.wrap ((0 : Int) + n10)) fun n11 =>
         ∃ I12 : Nat → List Value → World → Prop,
         (
          ∃ k13 : Nat,
          I12 k13 [Value.int IntKind.i64 n11, Value.int IntKind.i64 (0 : Int)] w) ∧
         ∀ n14 : Int,
         ∀ n15 : Int,
         ∀ k16 : Nat,
         ∀ w17 : World,
         (
          I12 k16 [Value.int IntKind.i64 n14, Value.int IntKind.i64 n15] w17) →
         Br (decide (n15 < (↑k2 : Int)))
          (
           NilOk p1 fun a18 =>
           (
            (
             (0 : Int) ≤ n15) ∧
            n15 < (↑k2 : Int)) ∧
           ∃ s19 : ByteArray,
           (
            w17.cell? (a18.add (n15.toNat * (1 : Nat))) = some (Value.string s19)) ∧
           LetI (IntKind.i64.wrap ((9223372036854775807 : Int) - n14)) fun n20 =>
           Br (decide ((↑s19.size : Int) > n20))
            (
             False)
            (
             LetI (IntKind.i64.wrap (n14 + (↑s19.size : Int))) fun n21 =>
             LetI (IntKind.i64.wrap (n15 + (1 : Int))) fun n22 =>
             ∃ k23 : Nat,
             (
              k23 < k16) ∧
             I12 k23 [Value.int IntKind.i64 n21, Value.int IntKind.i64 n22] w17))
          (
           LetA (Obj.cells #[Value.pointer none, Value.slice none (0 : Nat) (0 : Nat)] (70 : Nat)) w17 fun b24 w25 =>
           Ca Try.prog (24 : Nat) #[Value.pointer (some { block := b24, off := (0 : Nat) }), Value.int IntKind.i64 n14] w25 fun e26 w27 =>
           (
            e26 = Ending.returned (Value.tuple #[])) ∧
           NilOk p1 fun a28 =>
           (
            (
             (0 : Int) ≤ (0 : Int)) ∧
            (0 : Int) < (↑k2 : Int)) ∧
           ∃ s29 : ByteArray,
           (
            w27.cell? a28 = some (Value.string s29)) ∧
           Ca Try.prog (25 : Nat) #[Value.pointer (some { block := b24, off := (0 : Nat) }), Value.string s29] w27 fun e30 w31 =>
           ∃ n32 : Int,
           ∃ v33 : Value,
           (
            e30 = Ending.returned (Value.tuple #[Value.int IntKind.i64 n32, v33])) ∧
           (
            (
             (0 : Int) ≤ (1 : Int)) ∧
            (
             (1 : Int) ≤ (↑k2 : Int)) ∧
            (
             (↑k2 : Int) ≤ (↑k3 : Int)) ∧
            (
             (↑k3 : Int) ≤ (↑k3 : Int)) ∧
            (
             (
              false = true) →
             false = true)) ∧
           ∃ I34 : Nat → List Value → World → Prop,
           (
            ∃ k35 : Nat,
            I34 k35 [Value.int IntKind.i64 (0 : Int)] w31) ∧
           ∀ n36 : Int,
           ∀ k37 : Nat,
           ∀ w38 : World,
           (
            I34 k37 [Value.int IntKind.i64 n36] w38) →
           Br (decide (n36 < (↑((↑k2 : Int).toNat - (1 : Nat)) : Int)))
            (
             NilOk (Decidable.rec (fun h => (fun x => Option.map (fun x => x.add (Int.toNat (1 : Int) * sizeT Try.prog (9 : Nat))) p1) h) (fun h => (fun x => p1) h) (instDecidableEqNat (↑k3 : Int).toNat (Int.toNat (1 : Int)))) fun a39 =>
             (
              (
               (0 : Int) ≤ n36) ∧
              n36 < (↑((↑k2 : Int).toNat - (1 : Nat)) : Int)) ∧
             ∃ s40 : ByteArray,
             (
              w38.cell? (a39.add (n36.toNat * (1 : Nat))) = some (Value.string s40)) ∧
             Ca Try.prog (25 : Nat) #[Value.pointer (some { block := b24, off := (0 : Nat) }), Value.string s4] w38 fun e41 w42 =>
             ∃ n43 : Int,
             ∃ v44 : Value,
             (
              e41 = Ending.returned (Value.tuple #[Value.int IntKind.i64 n43, v44])) ∧
             Ca Try.prog (25 : Nat) #[Value.pointer (some { block := b24, off := (0 : Nat) }), Value.string s40] w42 fun e45 w46 =>
             ∃ n47 : Int,
             ∃ v48 : Value,
             (
              e45 = Ending.returned (Value.tuple #[Value.int IntKind.i64 n47, v48])) ∧
             LetI (IntKind.i64.wrap (n36 + (1 : Int))) fun n49 =>
             ∃ k50 : Nat,
             (
              k50 < k37) ∧
             I34 k50 [Value.int IntKind.i64 n49] w46)
            (
             Ca Try.prog (26 : Nat) #[Value.pointer (some { block := b24, off := (0 : Nat) })] w38 fun e51 w52 =>
             ∃ s53 : ByteArray,
             (
              e51 = Ending.returned (Value.string s53)) ∧
             R (Ending.returned (Value.string s53)) w52))))
      (
       ∃ I54 : Nat → List Value → World → Prop,
       (
        ∃ k55 : Nat,
        I54 k55 [Value.int IntKind.i64 (0 : Int), Value.int IntKind.i64 (0 : Int)] w) ∧
       ∀ n56 : Int,
       ∀ n57 : Int,
       ∀ k58 : Nat,
       ∀ w59 : World,
       (
        I54 k58 [Value.int IntKind.i64 n56, Value.int IntKind.i64 n57] w59) →
       Br (decide (n57 < (↑k2 : Int)))
        (
         NilOk p1 fun a60 =>
         (
          (
           (0 : Int) ≤ n57) ∧
          n57 < (↑k2 : Int)) ∧
         ∃ s61 : ByteArray,
         (
          w59.cell? (a60.add (n57.toNat * (1 : Nat))) = some (Value.string s61)) ∧
         LetI (IntKind.i64.wrap ((9223372036854775807 : Int) - n56)) fun n62 =>
         Br (decide ((↑s61.size : Int) > n62))
          (
           False)
          (
           LetI (IntKind.i64.wrap (n56 + (↑s61.size : Int))) fun n63 =>
           LetI (IntKind.i64.wrap (n57 + (1 : Int))) fun n64 =>
           ∃ k65 : Nat,
           (
            k65 < k58) ∧
           I54 k65 [Value.int IntKind.i64 n63, Value.int IntKind.i64 n64] w59))
        (
         LetA (Obj.cells #[Value.pointer none, Value.slice none (0 : Nat) (0 : Nat)] (70 : Nat)) w59 fun b66 w67 =>
         Ca Try.prog (24 : Nat) #[Value.pointer (some { block := b66, off := (0 : Nat) }), Value.int IntKind.i64 n56] w67 fun e68 w69 =>
         (
          e68 = Ending.returned (Value.tuple #[])) ∧
         NilOk p1 fun a70 =>
         (
          (
           (0 : Int) ≤ (0 : Int)) ∧
          (0 : Int) < (↑k2 : Int)) ∧
         ∃ s71 : ByteArray,
         (
          w69.cell? a70 = some (Value.string s71)) ∧
         Ca Try.prog (25 : Nat) #[Value.pointer (some { block := b66, off := (0 : Nat) }), Value.string s71] w69 fun e72 w73 =>
         ∃ n74 : Int,
         ∃ v75 : Value,
         (
          e72 = Ending.returned (Value.tuple #[Value.int IntKind.i64 n74, v75])) ∧
         (
          (
           (0 : Int) ≤ (1 : Int)) ∧
          (
           (1 : Int) ≤ (↑k2 : Int)) ∧
          (
           (↑k2 : Int) ≤ (↑k3 : Int)) ∧
          (
           (↑k3 : Int) ≤ (↑k3 : Int)) ∧
          (
           (
            false = true) →
           false = true)) ∧
         ∃ I76 : Nat → List Value → World → Prop,
         (
          ∃ k77 : Nat,
          I76 k77 [Value.int IntKind.i64 (0 : Int)] w73) ∧
         ∀ n78 : Int,
         ∀ k79 : Nat,
         ∀ w80 : World,
         (
          I76 k79 [Value.int IntKind.i64 n78] w80) →
         Br (decide (n78 < (↑((↑k2 : Int).toNat - (1 : Nat)) : Int)))
          (
           NilOk (Decidable.rec (fun h => (fun x => Option.map (fun x => x.add (Int.toNat (1 : Int) * sizeT Try.prog (9 : Nat))) p1) h) (fun h => (fun x => p1) h) (instDecidableEqNat (↑k3 : Int).toNat (Int.toNat (1 : Int)))) fun a81 =>
           (
            (
             (0 : Int) ≤ n78) ∧
            n78 < (↑((↑k2 : Int).toNat - (1 : Nat)) : Int)) ∧
           ∃ s82 : ByteArray,
           (
            w80.cell? (a81.add (n78.toNat * (1 : Nat))) = some (Value.string s82)) ∧
           Ca Try.prog (25 : Nat) #[Value.pointer (some { block := b66, off := (0 : Nat) }), Value.string s4] w80 fun e83 w84 =>
           ∃ n85 : Int,
           ∃ v86 : Value,
           (
            e83 = Ending.returned (Value.tuple #[Value.int IntKind.i64 n85, v86])) ∧
           Ca Try.prog (25 : Nat) #[Value.pointer (some { block := b66, off := (0 : Nat) }), Value.string s82] w84 fun e87 w88 =>
           ∃ n89 : Int,
           ∃ v90 : Value,
           (
            e87 = Ending.returned (Value.tuple #[Value.int IntKind.i64 n89, v90])) ∧
           LetI (IntKind.i64.wrap (n78 + (1 : Int))) fun n91 =>
           ∃ k92 : Nat,
           (
            k92 < k79) ∧
           I76 k92 [Value.int IntKind.i64 n91] w88)
          (
           Ca Try.prog (26 : Nat) #[Value.pointer (some { block := b66, off := (0 : Nat) })] w80 fun e93 w94 =>
           ∃ s95 : ByteArray,
           (
            e93 = Ending.returned (Value.string s95)) ∧
           R (Ending.returned (Value.string s95)) w94)))))
theorem sjoin_ok (p1 : Option Addr) (k2 : Nat) (k3 : Nat) (s4 : ByteArray) (w : World) (R : Ending → World → Prop) (h : sjoin p1 k2 k3 s4 w R) : Ca Try.prog 23 #[Value.slice p1 k2 k3, Value.string s4] w R :=
  Ca.of_fvc (c := bodyOf Try.f23) (by kernel_rfl) Try.func23 (by kernel_rfl) [] (Eq.mp (by kernel_rfl) h)

def gone (w : World) (R : Ending → World → Prop) : Prop :=
 Ca Try.prog (8 : Nat) #[Value.int IntKind.i64 (1 : Int), Value.string { data := #[(97 : UInt8), (98 : UInt8), (99 : UInt8), (100 : UInt8), (101 : UInt8)] }, Value.int IntKind.i64 (2 : Int), Value.int IntKind.i64 (2 : Int)] w fun e1 w2 =>
 ∃ p3 : Option Addr,
 ∃ n4 : Int,
 (
  e1 = Ending.returned (Value.tuple #[Value.pointer p3, Value.int IntKind.i64 n4])) ∧
 Br (n4 != (0 : Int))
  (
   R (Ending.returned (Value.bool false)) w2)
  (
   Ca Try.prog (9 : Nat) #[Value.pointer p3] w2 fun e5 w6 =>
   ∃ n7 : Int,
   ∃ n8 : Int,
   ∃ n9 : Int,
   ∃ s10 : ByteArray,
   ∃ b11 : Bool,
   (
    e5 = Ending.returned (Value.tuple #[Value.agg #[Value.int IntKind.i64 n7, Value.int IntKind.i64 n8, Value.int IntKind.i64 n9, Value.string s10], Value.bool b11])) ∧
   LetA (Obj.cells #[Value.int IntKind.i64 (0 : Int), Value.int IntKind.i64 (0 : Int), Value.int IntKind.i64 (0 : Int), Value.string { data := #[] }] (32 : Nat)) w6 fun b12 w13 =>
   (
    WrRow w13 { block := b12, off := (0 : Nat) } (0 : Nat) [Value.int IntKind.i64 n7, Value.int IntKind.i64 n8, Value.int IntKind.i64 n9, Value.string s10]) ∧
   LetW (setRow w13 { block := b12, off := (0 : Nat) } (0 : Nat) [Value.int IntKind.i64 n7, Value.int IntKind.i64 n8, Value.int IntKind.i64 n9, Value.string s10]) fun w14 =>
   Ca Try.prog (9 : Nat) #[Value.pointer p3] w14 fun e15 w16 =>
   ∃ n17 : Int,
   ∃ n18 : Int,
   ∃ n19 : Int,
   ∃ s20 : ByteArray,
   ∃ b21 : Bool,
   (
    e15 = Ending.returned (Value.tuple #[Value.agg #[Value.int IntKind.i64 n17, Value.int IntKind.i64 n18, Value.int IntKind.i64 n19, Value.string s20], Value.bool b21])) ∧
   LetA (Obj.cells #[Value.int IntKind.i64 (0 : Int), Value.int IntKind.i64 (0 : Int), Value.int IntKind.i64 (0 : Int), Value.string { data := #[] }] (32 : Nat)) w16 fun b22 w23 =>
   (
    WrRow w23 { block := b22, off := (0 : Nat) } (0 : Nat) [Value.int IntKind.i64 n17, Value.int IntKind.i64 n18, Value.int IntKind.i64 n19, Value.string s20]) ∧
   LetW (setRow w23 { block := b22, off := (0 : Nat) } (0 : Nat) [Value.int IntKind.i64 n17, Value.int IntKind.i64 n18, Value.int IntKind.i64 n19, Value.string s20]) fun w24 =>
   Ca Try.prog (9 : Nat) #[Value.pointer p3] w24 fun e25 w26 =>
   ∃ n27 : Int,
   ∃ n28 : Int,
   ∃ n29 : Int,
   ∃ s30 : ByteArray,
   ∃ b31 : Bool,
   (
    e25 = Ending.returned (Value.tuple #[Value.agg #[Value.int IntKind.i64 n27, Value.int IntKind.i64 n28, Value.int IntKind.i64 n29, Value.string s30], Value.bool b31])) ∧
   LetA (Obj.cells #[Value.int IntKind.i64 (0 : Int), Value.int IntKind.i64 (0 : Int), Value.int IntKind.i64 (0 : Int), Value.string { data := #[] }] (32 : Nat)) w26 fun b32 w33 =>
   (
    WrRow w33 { block := b32, off := (0 : Nat) } (0 : Nat) [Value.int IntKind.i64 n27, Value.int IntKind.i64 n28, Value.int IntKind.i64 n29, Value.string s30]) ∧
   LetW (setRow w33 { block := b32, off := (0 : Nat) } (0 : Nat) [Value.int IntKind.i64 n27, Value.int IntKind.i64 n28, Value.int IntKind.i64 n29, Value.string s30]) fun w34 =>
   Ca Try.prog (7 : Nat) #[] w34 fun e35 w36 =>
   ∃ p37 : Option Addr,
   (
    e35 = Ending.returned (Value.pointer p37)) ∧
   ∃ n38 : Int,
   ∃ n39 : Int,
   ∃ n40 : Int,
   ∃ s41 : ByteArray,
   (
    Row w36 { block := b22, off := (0 : Nat) } (0 : Nat) [Value.int IntKind.i64 n38, Value.int IntKind.i64 n39, Value.int IntKind.i64 n40, Value.string s41]) ∧
   Ca Try.prog (10 : Nat) #[Value.pointer p37, Value.agg #[Value.int IntKind.i64 n38, Value.int IntKind.i64 n39, Value.int IntKind.i64 n40, Value.string s41]] w36 fun e42 w43 =>
   ∃ n44 : Int,
   ∃ n45 : Int,
   (
    e42 = Ending.returned (Value.tuple #[Value.int IntKind.i64 n44, Value.int IntKind.i64 n45])) ∧
   ∃ n46 : Int,
   ∃ n47 : Int,
   ∃ n48 : Int,
   ∃ s49 : ByteArray,
   (
    Row w43 { block := b12, off := (0 : Nat) } (0 : Nat) [Value.int IntKind.i64 n46, Value.int IntKind.i64 n47, Value.int IntKind.i64 n48, Value.string s49]) ∧
   Ca Try.prog (10 : Nat) #[Value.pointer p37, Value.agg #[Value.int IntKind.i64 n46, Value.int IntKind.i64 n47, Value.int IntKind.i64 n48, Value.string s49]] w43 fun e50 w51 =>
   ∃ n52 : Int,
   ∃ n53 : Int,
   (
    e50 = Ending.returned (Value.tuple #[Value.int IntKind.i64 n52, Value.int IntKind.i64 n53])) ∧
   ∃ n54 : Int,
   ∃ n55 : Int,
   ∃ n56 : Int,
   ∃ s57 : ByteArray,
   (
    Row w51 { block := b22, off := (0 : Nat) } (0 : Nat) [Value.int IntKind.i64 n54, Value.int IntKind.i64 n55, Value.int IntKind.i64 n56, Value.string s57]) ∧
   Ca Try.prog (10 : Nat) #[Value.pointer p37, Value.agg #[Value.int IntKind.i64 n54, Value.int IntKind.i64 n55, Value.int IntKind.i64 n56, Value.string s57]] w51 fun e58 w59 =>
   ∃ n60 : Int,
   ∃ n61 : Int,
   (
    e58 = Ending.returned (Value.tuple #[Value.int IntKind.i64 n60, Value.int IntKind.i64 n61])) ∧
   Br (!b11)
    (
     R (Ending.returned (Value.bool false)) w59)
    (
     Br (!b21)
      (
       R (Ending.returned (Value.bool false)) w59)
      (
       Br (b31)
        (
         R (Ending.returned (Value.bool false)) w59)
        (
         Br (n45 != (0 : Int))
          (
           R (Ending.returned (Value.bool false)) w59)
          (
           Br (n53 != (1 : Int))
            (
             R (Ending.returned (Value.bool false)) w59)
            (
             Br (n61 != (2 : Int))
              (
               R (Ending.returned (Value.bool false)) w59)
              (
               Br (n60 != (1 : Int))
                (
                 R (Ending.returned (Value.bool false)) w59)
                (
                 Ca Try.prog (11 : Nat) #[Value.pointer p3, Value.int IntKind.i64 (1 : Int), Value.int IntKind.i64 (2 : Int)] w59 fun e62 w63 =>
                 ∃ n64 : Int,
                 (
                  e62 = Ending.returned (Value.int IntKind.i64 n64)) ∧
                 Br (n64 != (0 : Int))
                  (
                   R (Ending.returned (Value.bool false)) w63)
                  (
                   Ca Try.prog (9 : Nat) #[Value.pointer p3] w63 fun e65 w66 =>
                   ∃ n67 : Int,
                   ∃ n68 : Int,
                   ∃ n69 : Int,
                   ∃ s70 : ByteArray,
                   ∃ b71 : Bool,
                   (
                    e65 = Ending.returned (Value.tuple #[Value.agg #[Value.int IntKind.i64 n67, Value.int IntKind.i64 n68, Value.int IntKind.i64 n69, Value.string s70], Value.bool b71])) ∧
                   LetA (Obj.cells #[Value.int IntKind.i64 (0 : Int), Value.int IntKind.i64 (0 : Int), Value.int IntKind.i64 (0 : Int), Value.string { data := #[] }] (32 : Nat)) w66 fun b72 w73 =>
                   (
                    WrRow w73 { block := b72, off := (0 : Nat) } (0 : Nat) [Value.int IntKind.i64 n67, Value.int IntKind.i64 n68, Value.int IntKind.i64 n69, Value.string s70]) ∧
                   LetW (setRow w73 { block := b72, off := (0 : Nat) } (0 : Nat) [Value.int IntKind.i64 n67, Value.int IntKind.i64 n68, Value.int IntKind.i64 n69, Value.string s70]) fun w74 =>
                   ∃ n75 : Int,
                   ∃ n76 : Int,
                   ∃ n77 : Int,
                   ∃ s78 : ByteArray,
                   (
                    Row w74 { block := b72, off := (0 : Nat) } (0 : Nat) [Value.int IntKind.i64 n75, Value.int IntKind.i64 n76, Value.int IntKind.i64 n77, Value.string s78]) ∧
                   Ca Try.prog (10 : Nat) #[Value.pointer p37, Value.agg #[Value.int IntKind.i64 n75, Value.int IntKind.i64 n76, Value.int IntKind.i64 n77, Value.string s78]] w74 fun e79 w80 =>
                   ∃ n81 : Int,
                   ∃ n82 : Int,
                   (
                    e79 = Ending.returned (Value.tuple #[Value.int IntKind.i64 n81, Value.int IntKind.i64 n82])) ∧
                   Ca Try.prog (12 : Nat) #[Value.pointer p37] w80 fun e83 w84 =>
                   ∃ s85 : ByteArray,
                   ∃ b86 : Bool,
                   (
                    e83 = Ending.returned (Value.tuple #[Value.string s85, Value.bool b86])) ∧
                   ∃ n87 : Int,
                   ∃ n88 : Int,
                   ∃ n89 : Int,
                   ∃ s90 : ByteArray,
                   (
                    Row w84 { block := b12, off := (0 : Nat) } (0 : Nat) [Value.int IntKind.i64 n87, Value.int IntKind.i64 n88, Value.int IntKind.i64 n89, Value.string s90]) ∧
                   Br (n87 == (1 : Int) && (n88 == (0 : Int) && (n89 == (3 : Int) && (s90.toList == [(97 : UInt8), (98 : UInt8)] && true))))
                    (
                     Br (b71)
                      (
                       ∃ s91 : ByteArray,
                       (
                        w84.cell? { block := b72, off := (3 : Nat) } = some (Value.string s91)) ∧
                       Br (s91.toList == [(101 : UInt8)])
                        (
                         Br (n82 == (3 : Int))
                          (
                           Br (s85.toList == [(97 : UInt8), (98 : UInt8), (99 : UInt8), (100 : UInt8), (101 : UInt8)])
                            (
                             R (Ending.returned (Value.bool b86)) w84)
                            (
                             R (Ending.returned (Value.bool false)) w84))
                          (
                           R (Ending.returned (Value.bool false)) w84))
                        (
                         R (Ending.returned (Value.bool false)) w84))
                      (
                       R (Ending.returned (Value.bool false)) w84))
                    (
                     R (Ending.returned (Value.bool false)) w84))))))))))
theorem gone_ok (w : World) (R : Ending → World → Prop) (h : gone  w R) : Ca Try.prog 6 #[] w R :=
  Ca.of_fvc (c := bodyOf Try.f6) (by kernel_rfl) Try.func6 (by kernel_rfl) [] (Eq.mp (by kernel_rfl) h)

def lawTSends (s1 : ByteArray) (n2 : Int) (n3 : Int) (n4 : Int) (p5 : Option Addr) (k6 : Nat) (_k7 : Nat) (w : World) (R : Ending → World → Prop) : Prop :=
 LetA (Obj.cells #[Value.int IntKind.i64 n2, Value.int IntKind.i64 n3, Value.int IntKind.i64 n4] (41 : Nat)) w fun b8 w9 =>
 Br (decide ((↑s1.size : Int) > (600 : Int)))
  (
   Ca Try.prog (6 : Nat) #[] w9 fun e10 w11 =>
   ∃ b12 : Bool,
   (
    e10 = Ending.returned (Value.bool b12)) ∧
   R (Ending.returned (Value.bool b12)) w11)
  (
   Br (decide ((↑k6 : Int) > (100 : Int)))
    (
     Ca Try.prog (6 : Nat) #[] w9 fun e13 w14 =>
     ∃ b15 : Bool,
     (
      e13 = Ending.returned (Value.bool b15)) ∧
     R (Ending.returned (Value.bool b15)) w14)
    (
     (
      (
       (0 : Int) ≤ (0 : Int)) ∧
      (0 : Int) < (↑(3 : Nat) : Int)) ∧
     ∃ n16 : Int,
     (
      w9.cell? { block := b8, off := (0 : Nat) } = some (Value.int IntKind.i64 n16)) ∧
     (
      (
       (0 : Int) ≤ (1 : Int)) ∧
      (1 : Int) < (↑(3 : Nat) : Int)) ∧
     ∃ n17 : Int,
     (
      w9.cell? { block := b8, off := (1 : Nat) } = some (Value.int IntKind.i64 n17)) ∧
     (
      (
       (0 : Int) ≤ (2 : Int)) ∧
      (2 : Int) < (↑(3 : Nat) : Int)) ∧
     ∃ n18 : Int,
     (
      w9.cell? { block := b8, off := (2 : Nat) } = some (Value.int IntKind.i64 n18)) ∧
     Ca Try.prog (8 : Nat) #[Value.int IntKind.i64 n16, Value.string s1, Value.int IntKind.i64 n17, Value.int IntKind.i64 n18] w9 fun e19 w20 =>
     ∃ p21 : Option Addr,
     ∃ n22 : Int,
     (
      e19 = Ending.returned (Value.tuple #[Value.pointer p21, Value.int IntKind.i64 n22])) ∧
     (
      (
       (0 : Int) ≤ (0 : Int)) ∧
      (0 : Int) < (↑(3 : Nat) : Int)) ∧
     ∃ n23 : Int,
     (
      w20.cell? { block := b8, off := (0 : Nat) } = some (Value.int IntKind.i64 n23)) ∧
     (
      (
       (0 : Int) ≤ (1 : Int)) ∧
      (1 : Int) < (↑(3 : Nat) : Int)) ∧
     ∃ n24 : Int,
     (
      w20.cell? { block := b8, off := (1 : Nat) } = some (Value.int IntKind.i64 n24)) ∧
     (
      (
       (0 : Int) ≤ (2 : Int)) ∧
      (2 : Int) < (↑(3 : Nat) : Int)) ∧
     ∃ n25 : Int,
     (
      w20.cell? { block := b8, off := (2 : Nat) } = some (Value.int IntKind.i64 n25)) ∧
     Ca Try.prog (14 : Nat) #[Value.int IntKind.i64 n23, Value.string s1, Value.int IntKind.i64 n24, Value.int IntKind.i64 n25] w20 fun e26 w27 =>
     ∃ p28 : Option Addr,
     ∃ n29 : Int,
     (
      e26 = Ending.returned (Value.tuple #[Value.pointer p28, Value.int IntKind.i64 n29])) ∧
     Br (n22 != n29)
      (
       Br (n22 == n29)
        (
         Br (p21.isNone)
          (
           Ca Try.prog (6 : Nat) #[] w27 fun e30 w31 =>
           ∃ b32 : Bool,
           (
            e30 = Ending.returned (Value.bool b32)) ∧
           R (Ending.returned (Value.bool b32)) w31)
          (
           R (Ending.returned (Value.bool false)) w27))
        (
         R (Ending.returned (Value.bool false)) w27))
      (
       Br (n29 != (0 : Int))
        (
         Br (n22 == n29)
          (
           Br (p21.isNone)
            (
             Ca Try.prog (6 : Nat) #[] w27 fun e33 w34 =>
             ∃ b35 : Bool,
             (
              e33 = Ending.returned (Value.bool b35)) ∧
             R (Ending.returned (Value.bool b35)) w34)
            (
             R (Ending.returned (Value.bool false)) w27))
          (
           R (Ending.returned (Value.bool false)) w27))
        (
         ∃ I36 : Nat → List Value → World → Prop,
         (
          ∃ k37 : Nat,
          I36 k37 [Value.bool false, Value.int IntKind.i64 (0 : Int)] w27) ∧
         ∀ b38 : Bool,
         ∀ n39 : Int,
         ∀ k40 : Nat,
         ∀ w41 : World,
         (
          I36 k40 [Value.bool b38, Value.int IntKind.i64 n39] w41) →
         Br (decide (n39 < (↑k6 : Int)))
          (
           NilOk p5 fun a42 =>
           (
            (
             (0 : Int) ≤ n39) ∧
            n39 < (↑k6 : Int)) ∧
           ∃ n43 : Int,
           ∃ n44 : Int,
           ∃ n45 : Int,
           (
            Row w41 (a42.add (n39.toNat * (3 : Nat))) (0 : Nat) [Value.int IntKind.u8 n43, Value.int IntKind.i64 n44, Value.int IntKind.i64 n45]) ∧
           LetA (Obj.cells #[Value.int IntKind.u8 (0 : Int), Value.int IntKind.i64 (0 : Int), Value.int IntKind.i64 (0 : Int)] (47 : Nat)) w41 fun b46 w47 =>
           (
            WrRow w47 { block := b46, off := (0 : Nat) } (0 : Nat) [Value.int IntKind.u8 n43, Value.int IntKind.i64 n44, Value.int IntKind.i64 n45]) ∧
           LetW (setRow w47 { block := b46, off := (0 : Nat) } (0 : Nat) [Value.int IntKind.u8 n43, Value.int IntKind.i64 n44, Value.int IntKind.i64 n45]) fun w48 =>
           ∃ n49 : Int,
           (
            w48.cell? { block := b46, off := (0 : Nat) } = some (Value.int IntKind.u8 n49)) ∧
           (
            (9 : Int) ≠ (0 : Int)) ∧
           LetI (n49.tmod (9 : Int)) fun n50 =>
           Br (n50 == (5 : Int))
            (
             Br (n50 == (5 : Int))
              (
               NilOk p28 fun a51 =>
               ∃ n52 : Int,
               (
                w48.cell? a51 = some (Value.int IntKind.i64 n52)) ∧
               ∃ n53 : Int,
               (
                w48.cell? { block := b46, off := (2 : Nat) } = some (Value.int IntKind.i64 n53)) ∧
               NilOk p28 fun a54 =>
               ∃ n55 : Int,
               (
                w48.cell? a54 = some (Value.int IntKind.i64 n55)) ∧
               ∃ n56 : Int,
               (
                w48.cell? { block := b46, off := (2 : Nat) } = some (Value.int IntKind.i64 n56)) ∧
               Ca Try.prog (11 : Nat) #[Value.pointer p21, Value.int IntKind.i64 n52, Value.int IntKind.i64 n53] w48 fun e57 w58 =>
               ∃ n59 : Int,
               (
                e57 = Ending.returned (Value.int IntKind.i64 n59)) ∧
               (
                w58.cell? { block := b46, off := (2 : Nat) } = some (Value.int IntKind.i64 n56)) ∧
               (
                w58.cell? a54 = some (Value.int IntKind.i64 n55)) ∧
               Ca Try.prog (15 : Nat) #[Value.pointer p28, Value.int IntKind.i64 n55, Value.int IntKind.i64 n56] w58 fun e60 w61 =>
               ∃ n62 : Int,
               (
                e60 = Ending.returned (Value.int IntKind.i64 n62)) ∧
               Br (n59 != n62)
                (
                 R (Ending.returned (Value.bool false)) w61)
                (
                 NilOk p28 fun a63 =>
                 ∃ n64 : Int,
                 (
                  w61.cell? (a63.add (3 : Nat)) = some (Value.int IntKind.i64 n64)) ∧
                 Ca Try.prog (18 : Nat) #[Value.pointer p21] w61 fun e65 w66 =>
                 ∃ n67 : Int,
                 (
                  e65 = Ending.returned (Value.int IntKind.i64 n67)) ∧
                 (
                  w66.cell? (a63.add (3 : Nat)) = some (Value.int IntKind.i64 n64)) ∧
                 Br (n67 != n64)
                  (
                   R (Ending.returned (Value.bool false)) w66)
                  (
                   NilOk p28 fun a68 =>
                   ∃ n69 : Int,
                   (
                    w66.cell? (a68.add (3 : Nat)) = some (Value.int IntKind.i64 n69)) ∧
                   Ca Try.prog (13 : Nat) #[Value.pointer p21] w66 fun e70 w71 =>
                   ∃ b72 : Bool,
                   (
                    e70 = Ending.returned (Value.bool b72)) ∧
                   (
                    w71.cell? (a68.add (3 : Nat)) = some (Value.int IntKind.i64 n69)) ∧
                   Ca Try.prog (19 : Nat) #[Value.pointer p28] w71 fun e73 w74 =>
                   ∃ n75 : Int,
                   (
                    e73 = Ending.returned (Value.int IntKind.i64 n75)) ∧
                   (
                    w74.cell? (a68.add (3 : Nat)) = some (Value.int IntKind.i64 n69)) ∧
                   Br (!b72 == (n69 == n75))
                    (
                     R (Ending.returned (Value.bool false)) w74)
                    (
                     LetI (IntKind.i64.wrap (n39 + (1 : Int))) fun n76 =>
                     ∃ k77 : Nat,
                     (
                      k77 < k40) ∧
                     I36 k77 [Value.bool b38, Value.int IntKind.i64 n76] w74))))
              (
               Br (n50 == (7 : Int))
                (
                 ∃ n78 : Int,
                 (
                  w48.cell? { block := b46, off := (1 : Nat) } = some (Value.int IntKind.i64 n78)) ∧
                 ∃ n79 : Int,
                 (
                  w48.cell? { block := b46, off := (2 : Nat) } = some (Value.int IntKind.i64 n79)) ∧
                 ∃ n80 : Int,
                 (
                  w48.cell? { block := b46, off := (1 : Nat) } = some (Value.int IntKind.i64 n80)) ∧
                 ∃ n81 : Int,
                 (
                  w48.cell? { block := b46, off := (2 : Nat) } = some (Value.int IntKind.i64 n81)) ∧
                 Ca Try.prog (11 : Nat) #[Value.pointer p21, Value.int IntKind.i64 n78, Value.int IntKind.i64 n79] w48 fun e82 w83 =>
                 ∃ n84 : Int,
                 (
                  e82 = Ending.returned (Value.int IntKind.i64 n84)) ∧
                 (
                  w83.cell? { block := b46, off := (2 : Nat) } = some (Value.int IntKind.i64 n81)) ∧
                 (
                  w83.cell? { block := b46, off := (1 : Nat) } = some (Value.int IntKind.i64 n80)) ∧
                 Ca Try.prog (15 : Nat) #[Value.pointer p28, Value.int IntKind.i64 n80, Value.int IntKind.i64 n81] w83 fun e85 w86 =>
                 ∃ n87 : Int,
                 (
                  e85 = Ending.returned (Value.int IntKind.i64 n87)) ∧
                 Br (n84 != n87)
                  (
                   R (Ending.returned (Value.bool false)) w86)
                  (
                   NilOk p28 fun a88 =>
                   ∃ n89 : Int,
                   (
                    w86.cell? (a88.add (3 : Nat)) = some (Value.int IntKind.i64 n89)) ∧
                   Ca Try.prog (18 : Nat) #[Value.pointer p21] w86 fun e90 w91 =>
                   ∃ n92 : Int,
                   (
                    e90 = Ending.returned (Value.int IntKind.i64 n92)) ∧
                   (
                    w91.cell? (a88.add (3 : Nat)) = some (Value.int IntKind.i64 n89)) ∧
                   Br (n92 != n89)
                    (
                     R (Ending.returned (Value.bool false)) w91)
                    (
                     NilOk p28 fun a93 =>
                     ∃ n94 : Int,
                     (
                      w91.cell? (a93.add (3 : Nat)) = some (Value.int IntKind.i64 n94)) ∧
                     Ca Try.prog (13 : Nat) #[Value.pointer p21] w91 fun e95 w96 =>
                     ∃ b97 : Bool,
                     (
                      e95 = Ending.returned (Value.bool b97)) ∧
                     (
                      w96.cell? (a93.add (3 : Nat)) = some (Value.int IntKind.i64 n94)) ∧
                     Ca Try.prog (19 : Nat) #[Value.pointer p28] w96 fun e98 w99 =>
                     ∃ n100 : Int,
                     (
                      e98 = Ending.returned (Value.int IntKind.i64 n100)) ∧
                     (
                      w99.cell? (a93.add (3 : Nat)) = some (Value.int IntKind.i64 n94)) ∧
                     Br (!b97 == (n94 == n100))
                      (
                       R (Ending.returned (Value.bool false)) w99)
                      (
                       LetI (IntKind.i64.wrap (n39 + (1 : Int))) fun n101 =>
                       ∃ k102 : Nat,
                       (
                        k102 < k40) ∧
                       I36 k102 [Value.bool b38, Value.int IntKind.i64 n101] w99))))
                (
                 Br (n50 == (8 : Int))
                  (
                   Ca Try.prog (16 : Nat) #[Value.pointer p21] w48 fun e103 w104 =>
                   (
                    e103 = Ending.returned (Value.tuple #[])) ∧
                   NilOk p28 fun a105 =>
                   ∃ n106 : Int,
                   (
                    w104.cell? (a105.add (3 : Nat)) = some (Value.int IntKind.i64 n106)) ∧
                   NilOk p28 fun a107 =>
                   (
                    Wr w104 (a107.add (4 : Nat))) ∧
                   LetW (w104.setCell (a107.add (4 : Nat)) (Value.int IntKind.i64 n106)) fun w108 =>
                   NilOk p28 fun a109 =>
                   ∃ n110 : Int,
                   (
                    w108.cell? (a109.add (3 : Nat)) = some (Value.int IntKind.i64 n110)) ∧
                   Ca Try.prog (18 : Nat) #[Value.pointer p21] w108 fun e111 w112 =>
                   ∃ n113 : Int,
                   (
                    e111 = Ending.returned (Value.int IntKind.i64 n113)) ∧
                   (
                    w112.cell? (a109.add (3 : Nat)) = some (Value.int IntKind.i64 n110)) ∧
                   Br (n113 != n110)
                    (
                     R (Ending.returned (Value.bool false)) w112)
                    (
                     NilOk p28 fun a114 =>
                     ∃ n115 : Int,
                     (
                      w112.cell? (a114.add (3 : Nat)) = some (Value.int IntKind.i64 n115)) ∧
                     Ca Try.prog (13 : Nat) #[Value.pointer p21] w112 fun e116 w117 =>
                     ∃ b118 : Bool,
                     (
                      e116 = Ending.returned (Value.bool b118)) ∧
                     (
                      w117.cell? (a114.add (3 : Nat)) = some (Value.int IntKind.i64 n115)) ∧
                     Ca Try.prog (19 : Nat) #[Value.pointer p28] w117 fun e119 w120 =>
                     ∃ n121 : Int,
                     (
                      e119 = Ending.returned (Value.int IntKind.i64 n121)) ∧
                     (
                      w120.cell? (a114.add (3 : Nat)) = some (Value.int IntKind.i64 n115)) ∧
                     Br (!b118 == (n115 == n121))
                      (
                       R (Ending.returned (Value.bool false)) w120)
                      (
                       LetI (IntKind.i64.wrap (n39 + (1 : Int))) fun n122 =>
                       ∃ k123 : Nat,
                       (
                        k123 < k40) ∧
                       I36 k123 [Value.bool b38, Value.int IntKind.i64 n122] w120)))
                  (
                   Ca Try.prog (9 : Nat) #[Value.pointer p21] w48 fun e124 w125 =>
                   ∃ n126 : Int,
                   ∃ n127 : Int,
                   ∃ n128 : Int,
                   ∃ s129 : ByteArray,
                   ∃ b130 : Bool,
                   (
                    e124 = Ending.returned (Value.tuple #[Value.agg #[Value.int IntKind.i64 n126, Value.int IntKind.i64 n127, Value.int IntKind.i64 n128, Value.string s129], Value.bool b130])) ∧
                   LetA (Obj.cells #[Value.int IntKind.i64 (0 : Int), Value.int IntKind.i64 (0 : Int), Value.int IntKind.i64 (0 : Int), Value.string { data := #[] }] (32 : Nat)) w125 fun b131 w132 =>
                   (
                    WrRow w132 { block := b131, off := (0 : Nat) } (0 : Nat) [Value.int IntKind.i64 n126, Value.int IntKind.i64 n127, Value.int IntKind.i64 n128, Value.string s129]) ∧
                   LetW (setRow w132 { block := b131, off := (0 : Nat) } (0 : Nat) [Value.int IntKind.i64 n126, Value.int IntKind.i64 n127, Value.int IntKind.i64 n128, Value.string s129]) fun w133 =>
                   Ca Try.prog (17 : Nat) #[Value.pointer p28] w133 fun e134 w135 =>
                   ∃ n136 : Int,
                   ∃ n137 : Int,
                   ∃ n138 : Int,
                   ∃ s139 : ByteArray,
                   ∃ b140 : Bool,
                   (
                    e134 = Ending.returned (Value.tuple #[Value.agg #[Value.int IntKind.i64 n136, Value.int IntKind.i64 n137, Value.int IntKind.i64 n138, Value.string s139], Value.bool b140])) ∧
                   LetA (Obj.cells #[Value.int IntKind.i64 (0 : Int), Value.int IntKind.i64 (0 : Int), Value.int IntKind.i64 (0 : Int), Value.string { data := #[] }] (50 : Nat)) w135 fun b141 w142 =>
                   (
                    WrRow w142 { block := b141, off := (0 : Nat) } (0 : Nat) [Value.int IntKind.i64 n136, Value.int IntKind.i64 n137, Value.int IntKind.i64 n138, Value.string s139]) ∧
                   LetW (setRow w142 { block := b141, off := (0 : Nat) } (0 : Nat) [Value.int IntKind.i64 n136, Value.int IntKind.i64 n137, Value.int IntKind.i64 n138, Value.string s139]) fun w143 =>
                   ∃ n144 : Int,
                   ∃ n145 : Int,
                   ∃ n146 : Int,
                   ∃ s147 : ByteArray,
                   (
                    Row w143 { block := b131, off := (0 : Nat) } (0 : Nat) [Value.int IntKind.i64 n144, Value.int IntKind.i64 n145, Value.int IntKind.i64 n146, Value.string s147]) ∧
                   ∃ n148 : Int,
                   ∃ n149 : Int,
                   ∃ n150 : Int,
                   ∃ s151 : ByteArray,
                   (
                    Row w143 { block := b141, off := (0 : Nat) } (0 : Nat) [Value.int IntKind.i64 n148, Value.int IntKind.i64 n149, Value.int IntKind.i64 n150, Value.string s151]) ∧
                   Br (!(n144 == n148 && (n145 == n149 && (n146 == n150 && (s147.toList == s151.toList && true)))))
                    (
                     R (Ending.returned (Value.bool false)) w143)
                    (
                     Br (!b130 == b140)
                      (
                       R (Ending.returned (Value.bool false)) w143)
                      (
                       NilOk p28 fun a152 =>
                       ∃ n153 : Int,
                       (
                        w143.cell? (a152.add (3 : Nat)) = some (Value.int IntKind.i64 n153)) ∧
                       Ca Try.prog (18 : Nat) #[Value.pointer p21] w143 fun e154 w155 =>
                       ∃ n156 : Int,
                       (
                        e154 = Ending.returned (Value.int IntKind.i64 n156)) ∧
                       (
                        w155.cell? (a152.add (3 : Nat)) = some (Value.int IntKind.i64 n153)) ∧
                       Br (n156 != n153)
                        (
                         R (Ending.returned (Value.bool false)) w155)
                        (
                         NilOk p28 fun a157 =>
                         ∃ n158 : Int,
                         (
                          w155.cell? (a157.add (3 : Nat)) = some (Value.int IntKind.i64 n158)) ∧
                         Ca Try.prog (13 : Nat) #[Value.pointer p21] w155 fun e159 w160 =>
                         ∃ b161 : Bool,
                         (
                          e159 = Ending.returned (Value.bool b161)) ∧
                         (
                          w160.cell? (a157.add (3 : Nat)) = some (Value.int IntKind.i64 n158)) ∧
                         Ca Try.prog (19 : Nat) #[Value.pointer p28] w160 fun e162 w163 =>
                         ∃ n164 : Int,
                         (
                          e162 = Ending.returned (Value.int IntKind.i64 n164)) ∧
                         (
                          w163.cell? (a157.add (3 : Nat)) = some (Value.int IntKind.i64 n158)) ∧
                         Br (!b161 == (n158 == n164))
                          (
                           R (Ending.returned (Value.bool false)) w163)
                          (
                           LetI (IntKind.i64.wrap (n39 + (1 : Int))) fun n165 =>
                           ∃ k166 : Nat,
                           (
                            k166 < k40) ∧
                           I36 k166 [Value.bool b38, Value.int IntKind.i64 n165] w163))))))))
            (
             Br (n50 == (6 : Int))
              (
               NilOk p28 fun a167 =>
               ∃ n168 : Int,
               (
                w48.cell? a167 = some (Value.int IntKind.i64 n168)) ∧
               ∃ n169 : Int,
               (
                w48.cell? { block := b46, off := (2 : Nat) } = some (Value.int IntKind.i64 n169)) ∧
               NilOk p28 fun a170 =>
               ∃ n171 : Int,
               (
                w48.cell? a170 = some (Value.int IntKind.i64 n171)) ∧
               ∃ n172 : Int,
               (
                w48.cell? { block := b46, off := (2 : Nat) } = some (Value.int IntKind.i64 n172)) ∧
               Ca Try.prog (11 : Nat) #[Value.pointer p21, Value.int IntKind.i64 n168, Value.int IntKind.i64 n169] w48 fun e173 w174 =>
               ∃ n175 : Int,
               (
                e173 = Ending.returned (Value.int IntKind.i64 n175)) ∧
               (
                w174.cell? { block := b46, off := (2 : Nat) } = some (Value.int IntKind.i64 n172)) ∧
               (
                w174.cell? a170 = some (Value.int IntKind.i64 n171)) ∧
               Ca Try.prog (15 : Nat) #[Value.pointer p28, Value.int IntKind.i64 n171, Value.int IntKind.i64 n172] w174 fun e176 w177 =>
               ∃ n178 : Int,
               (
                e176 = Ending.returned (Value.int IntKind.i64 n178)) ∧
               Br (n175 != n178)
                (
                 R (Ending.returned (Value.bool false)) w177)
                (
                 NilOk p28 fun a179 =>
                 ∃ n180 : Int,
                 (
                  w177.cell? (a179.add (3 : Nat)) = some (Value.int IntKind.i64 n180)) ∧
                 Ca Try.prog (18 : Nat) #[Value.pointer p21] w177 fun e181 w182 =>
                 ∃ n183 : Int,
                 (
                  e181 = Ending.returned (Value.int IntKind.i64 n183)) ∧
                 (
                  w182.cell? (a179.add (3 : Nat)) = some (Value.int IntKind.i64 n180)) ∧
                 Br (n183 != n180)
                  (
                   R (Ending.returned (Value.bool false)) w182)
                  (
                   NilOk p28 fun a184 =>
                   ∃ n185 : Int,
                   (
                    w182.cell? (a184.add (3 : Nat)) = some (Value.int IntKind.i64 n185)) ∧
                   Ca Try.prog (13 : Nat) #[Value.pointer p21] w182 fun e186 w187 =>
                   ∃ b188 : Bool,
                   (
                    e186 = Ending.returned (Value.bool b188)) ∧
                   (
                    w187.cell? (a184.add (3 : Nat)) = some (Value.int IntKind.i64 n185)) ∧
                   Ca Try.prog (19 : Nat) #[Value.pointer p28] w187 fun e189 w190 =>
                   ∃ n191 : Int,
                   (
                    e189 = Ending.returned (Value.int IntKind.i64 n191)) ∧
                   (
                    w190.cell? (a184.add (3 : Nat)) = some (Value.int IntKind.i64 n185)) ∧
                   Br (!b188 == (n185 == n191))
                    (
                     R (Ending.returned (Value.bool false)) w190)
                    (
                     LetI (IntKind.i64.wrap (n39 + (1 : Int))) fun n192 =>
                     ∃ k193 : Nat,
                     (
                      k193 < k40) ∧
                     I36 k193 [Value.bool b38, Value.int IntKind.i64 n192] w190))))
              (
               Br (n50 == (7 : Int))
                (
                 ∃ n194 : Int,
                 (
                  w48.cell? { block := b46, off := (1 : Nat) } = some (Value.int IntKind.i64 n194)) ∧
                 ∃ n195 : Int,
                 (
                  w48.cell? { block := b46, off := (2 : Nat) } = some (Value.int IntKind.i64 n195)) ∧
                 ∃ n196 : Int,
                 (
                  w48.cell? { block := b46, off := (1 : Nat) } = some (Value.int IntKind.i64 n196)) ∧
                 ∃ n197 : Int,
                 (
                  w48.cell? { block := b46, off := (2 : Nat) } = some (Value.int IntKind.i64 n197)) ∧
                 Ca Try.prog (11 : Nat) #[Value.pointer p21, Value.int IntKind.i64 n194, Value.int IntKind.i64 n195] w48 fun e198 w199 =>
                 ∃ n200 : Int,
                 (
                  e198 = Ending.returned (Value.int IntKind.i64 n200)) ∧
                 (
                  w199.cell? { block := b46, off := (2 : Nat) } = some (Value.int IntKind.i64 n197)) ∧
                 (
                  w199.cell? { block := b46, off := (1 : Nat) } = some (Value.int IntKind.i64 n196)) ∧
                 Ca Try.prog (15 : Nat) #[Value.pointer p28, Value.int IntKind.i64 n196, Value.int IntKind.i64 n197] w199 fun e201 w202 =>
                 ∃ n203 : Int,
                 (
                  e201 = Ending.returned (Value.int IntKind.i64 n203)) ∧
                 Br (n200 != n203)
                  (
                   R (Ending.returned (Value.bool false)) w202)
                  (
                   NilOk p28 fun a204 =>
                   ∃ n205 : Int,
                   (
                    w202.cell? (a204.add (3 : Nat)) = some (Value.int IntKind.i64 n205)) ∧
                   Ca Try.prog (18 : Nat) #[Value.pointer p21] w202 fun e206 w207 =>
                   ∃ n208 : Int,
                   (
                    e206 = Ending.returned (Value.int IntKind.i64 n208)) ∧
                   (
                    w207.cell? (a204.add (3 : Nat)) = some (Value.int IntKind.i64 n205)) ∧
                   Br (n208 != n205)
                    (
                     R (Ending.returned (Value.bool false)) w207)
                    (
                     NilOk p28 fun a209 =>
                     ∃ n210 : Int,
                     (
                      w207.cell? (a209.add (3 : Nat)) = some (Value.int IntKind.i64 n210)) ∧
                     Ca Try.prog (13 : Nat) #[Value.pointer p21] w207 fun e211 w212 =>
                     ∃ b213 : Bool,
                     (
                      e211 = Ending.returned (Value.bool b213)) ∧
                     (
                      w212.cell? (a209.add (3 : Nat)) = some (Value.int IntKind.i64 n210)) ∧
                     Ca Try.prog (19 : Nat) #[Value.pointer p28] w212 fun e214 w215 =>
                     ∃ n216 : Int,
                     (
                      e214 = Ending.returned (Value.int IntKind.i64 n216)) ∧
                     (
                      w215.cell? (a209.add (3 : Nat)) = some (Value.int IntKind.i64 n210)) ∧
                     Br (!b213 == (n210 == n216))
                      (
                       R (Ending.returned (Value.bool false)) w215)
                      (
                       LetI (IntKind.i64.wrap (n39 + (1 : Int))) fun n217 =>
                       ∃ k218 : Nat,
                       (
                        k218 < k40) ∧
                       I36 k218 [Value.bool b38, Value.int IntKind.i64 n217] w215))))
                (
                 Br (n50 == (8 : Int))
                  (
                   Ca Try.prog (16 : Nat) #[Value.pointer p21] w48 fun e219 w220 =>
                   (
                    e219 = Ending.returned (Value.tuple #[])) ∧
                   NilOk p28 fun a221 =>
                   ∃ n222 : Int,
                   (
                    w220.cell? (a221.add (3 : Nat)) = some (Value.int IntKind.i64 n222)) ∧
                   NilOk p28 fun a223 =>
                   (
                    Wr w220 (a223.add (4 : Nat))) ∧
                   LetW (w220.setCell (a223.add (4 : Nat)) (Value.int IntKind.i64 n222)) fun w224 =>
                   NilOk p28 fun a225 =>
                   ∃ n226 : Int,
                   (
                    w224.cell? (a225.add (3 : Nat)) = some (Value.int IntKind.i64 n226)) ∧
                   Ca Try.prog (18 : Nat) #[Value.pointer p21] w224 fun e227 w228 =>
                   ∃ n229 : Int,
                   (
                    e227 = Ending.returned (Value.int IntKind.i64 n229)) ∧
                   (
                    w228.cell? (a225.add (3 : Nat)) = some (Value.int IntKind.i64 n226)) ∧
                   Br (n229 != n226)
                    (
                     R (Ending.returned (Value.bool false)) w228)
                    (
                     NilOk p28 fun a230 =>
                     ∃ n231 : Int,
                     (
                      w228.cell? (a230.add (3 : Nat)) = some (Value.int IntKind.i64 n231)) ∧
                     Ca Try.prog (13 : Nat) #[Value.pointer p21] w228 fun e232 w233 =>
                     ∃ b234 : Bool,
                     (
                      e232 = Ending.returned (Value.bool b234)) ∧
                     (
                      w233.cell? (a230.add (3 : Nat)) = some (Value.int IntKind.i64 n231)) ∧
                     Ca Try.prog (19 : Nat) #[Value.pointer p28] w233 fun e235 w236 =>
                     ∃ n237 : Int,
                     (
                      e235 = Ending.returned (Value.int IntKind.i64 n237)) ∧
                     (
                      w236.cell? (a230.add (3 : Nat)) = some (Value.int IntKind.i64 n231)) ∧
                     Br (!b234 == (n231 == n237))
                      (
                       R (Ending.returned (Value.bool false)) w236)
                      (
                       LetI (IntKind.i64.wrap (n39 + (1 : Int))) fun n238 =>
                       ∃ k239 : Nat,
                       (
                        k239 < k40) ∧
                       I36 k239 [Value.bool b38, Value.int IntKind.i64 n238] w236)))
                  (
                   Ca Try.prog (9 : Nat) #[Value.pointer p21] w48 fun e240 w241 =>
                   ∃ n242 : Int,
                   ∃ n243 : Int,
                   ∃ n244 : Int,
                   ∃ s245 : ByteArray,
                   ∃ b246 : Bool,
                   (
                    e240 = Ending.returned (Value.tuple #[Value.agg #[Value.int IntKind.i64 n242, Value.int IntKind.i64 n243, Value.int IntKind.i64 n244, Value.string s245], Value.bool b246])) ∧
                   LetA (Obj.cells #[Value.int IntKind.i64 (0 : Int), Value.int IntKind.i64 (0 : Int), Value.int IntKind.i64 (0 : Int), Value.string { data := #[] }] (32 : Nat)) w241 fun b247 w248 =>
                   (
                    WrRow w248 { block := b247, off := (0 : Nat) } (0 : Nat) [Value.int IntKind.i64 n242, Value.int IntKind.i64 n243, Value.int IntKind.i64 n244, Value.string s245]) ∧
                   LetW (setRow w248 { block := b247, off := (0 : Nat) } (0 : Nat) [Value.int IntKind.i64 n242, Value.int IntKind.i64 n243, Value.int IntKind.i64 n244, Value.string s245]) fun w249 =>
                   Ca Try.prog (17 : Nat) #[Value.pointer p28] w249 fun e250 w251 =>
                   ∃ n252 : Int,
                   ∃ n253 : Int,
                   ∃ n254 : Int,
                   ∃ s255 : ByteArray,
                   ∃ b256 : Bool,
                   (
                    e250 = Ending.returned (Value.tuple #[Value.agg #[Value.int IntKind.i64 n252, Value.int IntKind.i64 n253, Value.int IntKind.i64 n254, Value.string s255], Value.bool b256])) ∧
                   LetA (Obj.cells #[Value.int IntKind.i64 (0 : Int), Value.int IntKind.i64 (0 : Int), Value.int IntKind.i64 (0 : Int), Value.string { data := #[] }] (50 : Nat)) w251 fun b257 w258 =>
                   (
                    WrRow w258 { block := b257, off := (0 : Nat) } (0 : Nat) [Value.int IntKind.i64 n252, Value.int IntKind.i64 n253, Value.int IntKind.i64 n254, Value.string s255]) ∧
                   LetW (setRow w258 { block := b257, off := (0 : Nat) } (0 : Nat) [Value.int IntKind.i64 n252, Value.int IntKind.i64 n253, Value.int IntKind.i64 n254, Value.string s255]) fun w259 =>
                   ∃ n260 : Int,
                   ∃ n261 : Int,
                   ∃ n262 : Int,
                   ∃ s263 : ByteArray,
                   (
                    Row w259 { block := b247, off := (0 : Nat) } (0 : Nat) [Value.int IntKind.i64 n260, Value.int IntKind.i64 n261, Value.int IntKind.i64 n262, Value.string s263]) ∧
                   ∃ n264 : Int,
                   ∃ n265 : Int,
                   ∃ n266 : Int,
                   ∃ s267 : ByteArray,
                   (
                    Row w259 { block := b257, off := (0 : Nat) } (0 : Nat) [Value.int IntKind.i64 n264, Value.int IntKind.i64 n265, Value.int IntKind.i64 n266, Value.string s267]) ∧
                   Br (!(n260 == n264 && (n261 == n265 && (n262 == n266 && (s263.toList == s267.toList && true)))))
                    (
                     R (Ending.returned (Value.bool false)) w259)
                    (
                     Br (!b246 == b256)
                      (
                       R (Ending.returned (Value.bool false)) w259)
                      (
                       NilOk p28 fun a268 =>
                       ∃ n269 : Int,
                       (
                        w259.cell? (a268.add (3 : Nat)) = some (Value.int IntKind.i64 n269)) ∧
                       Ca Try.prog (18 : Nat) #[Value.pointer p21] w259 fun e270 w271 =>
                       ∃ n272 : Int,
                       (
                        e270 = Ending.returned (Value.int IntKind.i64 n272)) ∧
                       (
                        w271.cell? (a268.add (3 : Nat)) = some (Value.int IntKind.i64 n269)) ∧
                       Br (n272 != n269)
                        (
                         R (Ending.returned (Value.bool false)) w271)
                        (
                         NilOk p28 fun a273 =>
                         ∃ n274 : Int,
                         (
                          w271.cell? (a273.add (3 : Nat)) = some (Value.int IntKind.i64 n274)) ∧
                         Ca Try.prog (13 : Nat) #[Value.pointer p21] w271 fun e275 w276 =>
                         ∃ b277 : Bool,
                         (
                          e275 = Ending.returned (Value.bool b277)) ∧
                         (
                          w276.cell? (a273.add (3 : Nat)) = some (Value.int IntKind.i64 n274)) ∧
                         Ca Try.prog (19 : Nat) #[Value.pointer p28] w276 fun e278 w279 =>
                         ∃ n280 : Int,
                         (
                          e278 = Ending.returned (Value.int IntKind.i64 n280)) ∧
                         (
                          w279.cell? (a273.add (3 : Nat)) = some (Value.int IntKind.i64 n274)) ∧
                         Br (!b277 == (n274 == n280))
                          (
                           R (Ending.returned (Value.bool false)) w279)
                          (
                           LetI (IntKind.i64.wrap (n39 + (1 : Int))) fun n281 =>
                           ∃ k282 : Nat,
                           (
                            k282 < k40) ∧
                           I36 k282 [Value.bool b38, Value.int IntKind.i64 n281] w279)))))))))
          (
           Ca Try.prog (6 : Nat) #[] w41 fun e283 w284 =>
           ∃ b285 : Bool,
           (
            e283 = Ending.returned (Value.bool b285)) ∧
           R (Ending.returned (Value.bool b285)) w284)))))
theorem lawTSends_ok (s1 : ByteArray) (n2 : Int) (n3 : Int) (n4 : Int) (p5 : Option Addr) (k6 : Nat) (k7 : Nat) (w : World) (R : Ending → World → Prop) (h : lawTSends s1 n2 n3 n4 p5 k6 k7 w R) : Ca Try.prog 4 #[Value.string s1, Value.agg #[Value.int IntKind.i64 n2, Value.int IntKind.i64 n3, Value.int IntKind.i64 n4], Value.slice p5 k6 k7] w R :=
  Ca.of_fvc (c := bodyOf Try.f4) (by kernel_rfl) Try.func4 (by kernel_rfl) [] (Eq.mp (by kernel_rfl) h)

def lawTEnds (s1 : ByteArray) (s2 : ByteArray) (n3 : Int) (n4 : Int) (w : World) (R : Ending → World → Prop) : Prop :=
 LetA (Obj.cells #[Value.int IntKind.u8 n3, Value.int IntKind.u8 n4] (22 : Nat)) w fun b5 w6 =>
 Br (decide ((↑s1.size : Int) > (400 : Int)))
  (
   Ca Try.prog (6 : Nat) #[] w6 fun e7 w8 =>
   ∃ b9 : Bool,
   (
    e7 = Ending.returned (Value.bool b9)) ∧
   R (Ending.returned (Value.bool b9)) w8)
  (
   Br (decide ((↑s2.size : Int) > (400 : Int)))
    (
     Ca Try.prog (6 : Nat) #[] w6 fun e10 w11 =>
     ∃ b12 : Bool,
     (
      e10 = Ending.returned (Value.bool b12)) ∧
     R (Ending.returned (Value.bool b12)) w11)
    (
     Ca Try.prog (7 : Nat) #[] w6 fun e13 w14 =>
     ∃ p15 : Option Addr,
     (
      e13 = Ending.returned (Value.pointer p15)) ∧
     LetA (Obj.cells #[Value.string { data := #[] }, Value.string { data := #[] }] (26 : Nat)) w14 fun b16 w17 =>
     (
      WrRow w17 { block := b16, off := (0 : Nat) } (0 : Nat) [Value.string s1, Value.string s2]) ∧
     LetW (setRow w17 { block := b16, off := (0 : Nat) } (0 : Nat) [Value.string s1, Value.string s2]) fun w18 =>
     (
      (
       (0 : Int) ≤ (1 : Int)) ∧
      (1 : Int) < (↑(2 : Nat) : Int)) ∧
     ∃ n19 : Int,
     (
      w18.cell? { block := b5, off := (1 : Nat) } = some (Value.int IntKind.u8 n19)) ∧
     LetI (IntKind.i64.wrap n19) fun n20 =>
     (
      (16 : Int) ≠ (0 : Int)) ∧
     LetI (n20.tmod (16 : Int)) fun n21 =>
     LetI (IntKind.i64.wrap ((1 : Int) + n21)) fun n22 =>
     ∃ I23 : Nat → List Value → World → Prop,
     (
      ∃ k24 : Nat,
      I23 k24 [Value.bool false, Value.int IntKind.i64 (0 : Int)] w18) ∧
     ∀ b25 : Bool,
     ∀ n26 : Int,
     ∀ k27 : Nat,
     ∀ w28 : World,
     (
      I23 k27 [Value.bool b25, Value.int IntKind.i64 n26] w28) →
     Br (decide (n26 < (2 : Int)))
      (
       LetI (IntKind.i64.wrap ((3 : Int) + n26)) fun n29 =>
       (
        (
         (0 : Int) ≤ n26) ∧
        n26 < (↑(2 : Nat) : Int)) ∧
       ∃ s30 : ByteArray,
       (
        w28.cell? ((Addr.mk b16 (0 : Nat) none).add (n26.toNat * (1 : Nat))) = some (Value.string s30)) ∧
       (
        (
         (0 : Int) ≤ (0 : Int)) ∧
        (0 : Int) < (↑(2 : Nat) : Int)) ∧
       ∃ n31 : Int,
       (
        w28.cell? { block := b5, off := (0 : Nat) } = some (Value.int IntKind.u8 n31)) ∧
       LetI (IntKind.i64.wrap n31) fun n32 =>
       (
        (60 : Int) ≠ (0 : Int)) ∧
       LetI (n32.tmod (60 : Int)) fun n33 =>
       LetI (IntKind.i64.wrap ((1 : Int) + n33)) fun n34 =>
       Ca Try.prog (8 : Nat) #[Value.int IntKind.i64 n29, Value.string s30, Value.int IntKind.i64 n34, Value.int IntKind.i64 n22] w28 fun e35 w36 =>
       ∃ p37 : Option Addr,
       ∃ n38 : Int,
       (
        e35 = Ending.returned (Value.tuple #[Value.pointer p37, Value.int IntKind.i64 n38])) ∧
       Br (n38 != (0 : Int))
        (
         R (Ending.returned (Value.bool false)) w36)
        (
         (
          (
           (0 : Int) ≤ n26) ∧
          n26 < (↑(2 : Nat) : Int)) ∧
         ∃ s39 : ByteArray,
         (
          w36.cell? ((Addr.mk b16 (0 : Nat) none).add (n26.toNat * (1 : Nat))) = some (Value.string s39)) ∧
         (
          (
           (0 : Int) ≤ (0 : Int)) ∧
          (0 : Int) < (↑(2 : Nat) : Int)) ∧
         ∃ n40 : Int,
         (
          w36.cell? { block := b5, off := (0 : Nat) } = some (Value.int IntKind.u8 n40)) ∧
         LetI (IntKind.i64.wrap n40) fun n41 =>
         (
          (60 : Int) ≠ (0 : Int)) ∧
         LetI (n41.tmod (60 : Int)) fun n42 =>
         LetI (IntKind.i64.wrap ((1 : Int) + n42)) fun n43 =>
         (
          n43 ≠ (0 : Int)) ∧
         LetI (IntKind.i64.wrap ((↑s39.size : Int).tdiv n43)) fun n44 =>
         (
          n22 ≠ (0 : Int)) ∧
         LetI (IntKind.i64.wrap (n44.tdiv n22)) fun n45 =>
         LetI (IntKind.i64.wrap (n45 + (2 : Int))) fun n46 =>
         ∃ I47 : Nat → List Value → World → Prop,
         (
          ∃ k48 : Nat,
          I47 k48 [Value.bool b25, Value.int IntKind.i64 (0 : Int)] w36) ∧
         ∀ b49 : Bool,
         ∀ n50 : Int,
         ∀ k51 : Nat,
         ∀ w52 : World,
         (
          I47 k51 [Value.bool b49, Value.int IntKind.i64 n50] w52) →
         Br (decide (n50 < n46))
          (
           ∃ I53 : Nat → List Value → World → Prop,
           (
            ∃ k54 : Nat,
            I53 k54 [Value.bool b49, Value.int IntKind.i64 (0 : Int)] w52) ∧
           ∀ b55 : Bool,
           ∀ n56 : Int,
           ∀ k57 : Nat,
           ∀ w58 : World,
           (
            I53 k57 [Value.bool b55, Value.int IntKind.i64 n56] w58) →
           Br (decide (n56 < n22))
            (
             Ca Try.prog (9 : Nat) #[Value.pointer p37] w58 fun e59 w60 =>
             ∃ n61 : Int,
             ∃ n62 : Int,
             ∃ n63 : Int,
             ∃ s64 : ByteArray,
             ∃ b65 : Bool,
             (
              e59 = Ending.returned (Value.tuple #[Value.agg #[Value.int IntKind.i64 n61, Value.int IntKind.i64 n62, Value.int IntKind.i64 n63, Value.string s64], Value.bool b65])) ∧
             LetA (Obj.cells #[Value.int IntKind.i64 (0 : Int), Value.int IntKind.i64 (0 : Int), Value.int IntKind.i64 (0 : Int), Value.string { data := #[] }] (32 : Nat)) w60 fun b66 w67 =>
             (
              WrRow w67 { block := b66, off := (0 : Nat) } (0 : Nat) [Value.int IntKind.i64 n61, Value.int IntKind.i64 n62, Value.int IntKind.i64 n63, Value.string s64]) ∧
             LetW (setRow w67 { block := b66, off := (0 : Nat) } (0 : Nat) [Value.int IntKind.i64 n61, Value.int IntKind.i64 n62, Value.int IntKind.i64 n63, Value.string s64]) fun w68 =>
             Br (b65)
              (
               ∃ n69 : Int,
               ∃ n70 : Int,
               ∃ n71 : Int,
               ∃ s72 : ByteArray,
               (
                Row w68 { block := b66, off := (0 : Nat) } (0 : Nat) [Value.int IntKind.i64 n69, Value.int IntKind.i64 n70, Value.int IntKind.i64 n71, Value.string s72]) ∧
               Ca Try.prog (10 : Nat) #[Value.pointer p15, Value.agg #[Value.int IntKind.i64 n69, Value.int IntKind.i64 n70, Value.int IntKind.i64 n71, Value.string s72]] w68 fun e73 w74 =>
               ∃ n75 : Int,
               ∃ n76 : Int,
               (
                e73 = Ending.returned (Value.tuple #[Value.int IntKind.i64 n75, Value.int IntKind.i64 n76])) ∧
               LetI (IntKind.i64.wrap ((3 : Int) + n26)) fun n77 =>
               Br (n75 != n77)
                (
                 R (Ending.returned (Value.bool false)) w74)
                (
                 Ca Try.prog (11 : Nat) #[Value.pointer p37, Value.int IntKind.i64 n75, Value.int IntKind.i64 n76] w74 fun e78 w79 =>
                 ∃ n80 : Int,
                 (
                  e78 = Ending.returned (Value.int IntKind.i64 n80)) ∧
                 Br (n80 != (0 : Int))
                  (
                   R (Ending.returned (Value.bool false)) w79)
                  (
                   LetI (IntKind.i64.wrap (n56 + (1 : Int))) fun n81 =>
                   ∃ k82 : Nat,
                   (
                    k82 < k57) ∧
                   I53 k82 [Value.bool b55, Value.int IntKind.i64 n81] w79)))
              (
               LetI (IntKind.i64.wrap (n56 + (1 : Int))) fun n83 =>
               ∃ k84 : Nat,
               (
                k84 < k57) ∧
               I53 k84 [Value.bool b55, Value.int IntKind.i64 n83] w68))
            (
             LetI (IntKind.i64.wrap (n50 + (1 : Int))) fun n85 =>
             ∃ k86 : Nat,
             (
              k86 < k51) ∧
             I47 k86 [Value.bool b55, Value.int IntKind.i64 n85] w58))
          (
           Ca Try.prog (12 : Nat) #[Value.pointer p15] w52 fun e87 w88 =>
           ∃ s89 : ByteArray,
           ∃ b90 : Bool,
           (
            e87 = Ending.returned (Value.tuple #[Value.string s89, Value.bool b90])) ∧
           Ca Try.prog (13 : Nat) #[Value.pointer p37] w88 fun e91 w92 =>
           ∃ b93 : Bool,
           (
            e91 = Ending.returned (Value.bool b93)) ∧
           Br (!b93)
            (
             R (Ending.returned (Value.bool false)) w92)
            (
             Br (!b90)
              (
               R (Ending.returned (Value.bool false)) w92)
              (
               (
                (
                 (0 : Int) ≤ n26) ∧
                n26 < (↑(2 : Nat) : Int)) ∧
               ∃ s94 : ByteArray,
               (
                w92.cell? ((Addr.mk b16 (0 : Nat) none).add (n26.toNat * (1 : Nat))) = some (Value.string s94)) ∧
               Br (!s89.toList == s94.toList)
                (
                 R (Ending.returned (Value.bool false)) w92)
                (
                 LetI (IntKind.i64.wrap (n26 + (1 : Int))) fun n95 =>
                 ∃ k96 : Nat,
                 (
                  k96 < k27) ∧
                 I23 k96 [Value.bool b49, Value.int IntKind.i64 n95] w92))))))
      (
       Ca Try.prog (10 : Nat) #[Value.pointer p15, Value.agg #[Value.int IntKind.i64 (3 : Int), Value.int IntKind.i64 (0 : Int), Value.int IntKind.i64 (1 : Int), Value.string { data := #[] }]] w28 fun e97 w98 =>
       ∃ n99 : Int,
       ∃ n100 : Int,
       (
        e97 = Ending.returned (Value.tuple #[Value.int IntKind.i64 n99, Value.int IntKind.i64 n100])) ∧
       Br (n99 == (4 : Int))
        (
         Ca Try.prog (6 : Nat) #[] w98 fun e101 w102 =>
         ∃ b103 : Bool,
         (
          e101 = Ending.returned (Value.bool b103)) ∧
         R (Ending.returned (Value.bool b103)) w102)
        (
         R (Ending.returned (Value.bool false)) w98))))
theorem lawTEnds_ok (s1 : ByteArray) (s2 : ByteArray) (n3 : Int) (n4 : Int) (w : World) (R : Ending → World → Prop) (h : lawTEnds s1 s2 n3 n4 w R) : Ca Try.prog 3 #[Value.string s1, Value.string s2, Value.agg #[Value.int IntKind.u8 n3, Value.int IntKind.u8 n4]] w R :=
  Ca.of_fvc (c := bodyOf Try.f3) (by kernel_rfl) Try.func3 (by kernel_rfl) [] (Eq.mp (by kernel_rfl) h)

end Go.Proofs.Ytdiejbojobbboaa
