/- The law CountsOrder. -/
import Derived.Test.YtpnmcimjolmnoaaI
import Derived.Test.YtpnmcimjolmnoaaG
namespace Go.Proofs.Ytpnmcimjolmnoaa
open Go.Vc

/-- one turn of the law's loop, both acts at hand -/
def turnTail (p10 p14 : Option Addr) (n19 : Int) (b31 b33 : Nat) (w36 : World) (R : Ending → World → Prop) (I16 : Nat → List Value → World → Prop) (k20 : Nat) (b18 : Bool) : Prop :=
          ∃ n37 : Int,
          (
           w36.cell? { block := b31, off := (0 : Nat) } = some (Value.int IntKind.i64 n37)) ∧
          ∃ n38 : Int,
          (
           w36.cell? { block := b31, off := (1 : Nat) } = some (Value.int IntKind.i64 n38)) ∧
          Ca Try.prog (8 : Nat) #[Value.pointer p10, Value.int IntKind.i64 (IntKind.i64.wrap (↑(BitVec.ofInt (64 : Nat) n37 &&& BitVec.ofInt (64 : Nat) (3 : Int)).toNat : Int)), Value.int IntKind.i64 n38] w36 fun e39 w40 =>
          ∃ n41 : Int,
          ∃ n42 : Int,
          (
           e39 = Ending.returned (Value.tuple #[Value.int IntKind.i64 n41, Value.int IntKind.i64 n42])) ∧
          ∃ n43 : Int,
          (
           w40.cell? { block := b33, off := (0 : Nat) } = some (Value.int IntKind.i64 n43)) ∧
          ∃ n44 : Int,
          (
           w40.cell? { block := b33, off := (1 : Nat) } = some (Value.int IntKind.i64 n44)) ∧
          Ca Try.prog (8 : Nat) #[Value.pointer p14, Value.int IntKind.i64 (IntKind.i64.wrap (↑(BitVec.ofInt (64 : Nat) n43 &&& BitVec.ofInt (64 : Nat) (3 : Int)).toNat : Int)), Value.int IntKind.i64 n44] w40 fun e45 w46 =>
          ∃ n47 : Int,
          ∃ n48 : Int,
          (
           e45 = Ending.returned (Value.tuple #[Value.int IntKind.i64 n47, Value.int IntKind.i64 n48])) ∧
          ∃ n49 : Int,
          (
           w46.cell? { block := b31, off := (1 : Nat) } = some (Value.int IntKind.i64 n49)) ∧
          Br (!(n42 == (0 : Int)) == decide (n49 ≥ (0 : Int)))
           (
            R (Ending.returned (Value.bool false)) w46)
           (
            ∃ n50 : Int,
            (
             w46.cell? { block := b33, off := (1 : Nat) } = some (Value.int IntKind.i64 n50)) ∧
            Br (!(n48 == (0 : Int)) == decide (n50 ≥ (0 : Int)))
             (
              R (Ending.returned (Value.bool false)) w46)
             (
              LetI (IntKind.i64.wrap (n19 + (1 : Int))) fun n51 =>
              ∃ k52 : Nat,
              (
               k52 < k20) ∧
              I16 k52 [Value.bool b18, Value.int IntKind.i64 n51] w46))
theorem err_of (L : List Int) (hl : L.length = 4) (x y : Int) : (!((addF L (ix x) y).2.2 == 0) == decide (y ≥ 0)) = false := by
  have hx := ix_in x
  unfold addF
  by_cases h : y < 0
  · rw [if_pos h, decide_eq_false (show ¬ y ≥ 0 by omega)]; rfl
  · rw [if_neg h, if_neg (by omega), decide_eq_true (show y ≥ 0 by omega)]; rfl
set_option maxHeartbeats 1000000 in
theorem tail_ok {w w0 : World} {ba ga bb gb bx bY : Nat} {L M : List Int} {n19 x0 x1 y0 y1 : Int} {R : Ending → World → Prop} {I16 : Nat → List Value → World → Prop} {k20 : Nat} {b18 : Bool}
    (hC : Cn w ba ga L) (hM : Cn w bb gb M) (hX : Blk w bx 29 #[.int .i64 x0, .int .i64 x1]) (hY : Blk w bY 29 #[.int .i64 y0, .int .i64 y1]) (h1 : x1 ≤ 9223372036854775807) (h2 : y1 ≤ 9223372036854775807)
    (hl : L.length = 4) (hm : M.length = 4) (hab : ga ≠ gb) (hga : w0.heap.size ≤ ga) (hgb : w0.heap.size ≤ gb) (hK : Kp No w0 w)
    (hF : ∀ w', Cn w' ba ga (addF L (ix x0) x1).1 → Cn w' bb gb (addF M (ix y0) y1).1 → Kp No w0 w' → LetI (IntKind.i64.wrap (n19 + 1)) fun n51 => ∃ k52 : Nat, k52 < k20 ∧ I16 k52 [.bool b18, .int .i64 n51] w') :
    turnTail (some ⟨ba, 0, none⟩) (some ⟨bb, 0, none⟩) n19 bx bY w R I16 k20 b18 := by
  refine ⟨_, hX.at_ rfl, _, hX.at_ rfl, (add_ca hC (ix x0) x1 h1).mono ?_⟩
  rintro e w1 ⟨rfl, hC1, hk1⟩
  obtain ⟨tl, hr⟩ := hC.row
  obtain ⟨tl', hr'⟩ := hM.row
  have hX1 := hX.kp hk1 (fun h => hX.ne_ hr (by decide) h)
  have hY1 := hY.kp hk1 (fun h => hY.ne_ hr (by decide) h)
  have hM1 := hM.kp hk1 (fun h => hM.head.ne_ hr (by decide) h) (fun h => hab h.symm)
  refine ⟨_, _, rfl, _, hY1.at_ rfl, _, hY1.at_ rfl, (add_ca hM1 (ix y0) y1 h2).mono ?_⟩
  rintro e w2 ⟨rfl, hM2, hk2⟩
  have hX2 := hX1.kp hk2 (fun h => hX.ne_ hr' (by decide) h)
  have hY2 := hY1.kp hk2 (fun h => hY.ne_ hr' (by decide) h)
  have hC2 := hC1.kp hk2 (fun h => hC.head.ne_ hr' (by decide) h) (fun h => hab h)
  exact ⟨_, _, rfl, _, hX2.at_ rfl, Br.neg (err_of L hl x0 x1) ⟨_, hY2.at_ rfl, Br.neg (err_of M hm y0 y1) (hF w2 hC2 hM2 ((hK.new1 hk1 hga).new1 hk2 hgb))⟩⟩
theorem add_nought (a : Addr) : a.add 0 = a := by simp [Addr.add]
theorem row_of {w : World} {p : Option Addr} {k : Nat} {F : Nat → Int × Int} (h : Acts w p k F) {j : Nat} (hj : j < k) :
    ∃ a, p = some a ∧ a.block < w.heap.size ∧ Row w (a.add (j * 2)) 0 [.int .i64 (F j).1, .int .i64 (F j).2] ∧ (F j).2 ≤ 9223372036854775807 := by
  obtain ⟨a, ha, hb, h1, h2, h3⟩ := h j hj
  exact ⟨a, ha, hb, ⟨by rw [add_nought]; exact h1, h2, trivial⟩, h3⟩
def turnInv (w : World) (ba ga bb gb k d : Nat) (F : Nat → Int × Int) : Nat → List Value → World → Prop := fun z l w' => ∃ (i : Nat) (L M : List Int), l = [.bool false, .int .i64 i] ∧ z = k - i ∧ i ≤ k ∧ Cn w' ba ga L ∧ Cn w' bb gb M ∧ Holds L F i ∧ Holds M (fun j => F ((j + d) % k)) i ∧ Kp No w w'
set_option maxHeartbeats 2000000 in
theorem order_ca (p : Option Addr) (k k' : Nat) (n4 : Int) (F : Nat → Int × Int) (w : World) (hA : Acts w p k F) (h0 : 0 ≤ n4) (h1 : n4 ≤ 255) : Ca Try.prog 3 #[.slice p k k', .int .u8 n4] w (Yes w) := by
  refine lawOrder_ok _ _ _ _ _ _ (Br.intro (fun hk => (added_ca w).mono ?_) fun hk => ?_)
  · rintro e w1 ⟨rfl, hk⟩
    exact ⟨_, rfl, rfl, hk⟩
  simp at hk
  refine (new_good 4 w (by omega) (by omega)).mono ?_
  rintro e w1 ⟨ba, ga, rfl, hC1, hk1, _, hga⟩
  refine ⟨_, _, rfl, (new_good 4 w1 (by omega) (by omega)).mono ?_⟩
  rintro e w2 ⟨bb, gb, rfl, hM2, hk2, _, hgb⟩
  have hab : ga ≠ gb := by have := hC1.row.lt; omega
  have hgb' : w.heap.size ≤ gb := Nat.le_trans hk1.size hgb
  have hC2 := hC1.kp hk2 (not_no _) (not_no _)
  obtain ⟨d, rfl⟩ := Int.eq_ofNat_of_zero_le h0
  refine ⟨_, _, rfl, Br.neg rfl (Br.neg rfl ⟨turnInv w ba ga bb gb k d F,
    ⟨k, 0, _, _, rfl, rfl, by omega, hC2, hM2, holds_zero F, holds_zero _, hk1.trans hk2⟩, ?_⟩)⟩
  rintro _ _ _ w3 ⟨i, L, M, hl, rfl, hi, hC, hM, hHL, hHM, hK⟩
  obtain ⟨rfl, rfl⟩ : _ ∧ _ := by simpa using hl
  clear hl
  refine Br.intro (fun h4 => ?_) (fun h4 => ?_)
  · simp at h4
    have hjk : (i + d) % k < k := Nat.mod_lt _ (by omega)
    obtain ⟨a, rfl, ha, hr1, hb1⟩ := row_of (hA.kp hK) h4
    obtain ⟨a', ha', _, hr2, hb2⟩ := row_of (hA.kp hK) hjk
    obtain rfl : a = a' := by simpa using ha'
    refine ⟨⟨by omega, by omega⟩, _, _, hr1, LetI.id (by omega) (by omega) (LetI.id (by omega) (by omega) ⟨by omega, LetI.rem (by omega) ?_⟩)⟩
    have e : ((i : Int) + (d : Int)) % (k : Int) = (((i + d) % k : Nat) : Int) := by simp
    rw [e]
    have hfin : ∀ w', Cn w' ba ga (addF L (ix (F i).1) (F i).2).1 → Cn w' bb gb (addF M (ix (F ((i + d) % k)).1) (F ((i + d) % k)).2).1 → Kp No w w' →
        LetI (IntKind.i64.wrap ((i : Int) + 1)) fun n51 => ∃ k52 : Nat, k52 < k - i ∧ turnInv w ba ga bb gb k d F k52 [.bool false, .int .i64 n51] w' :=
      fun w' q1 q2 q3 => LetI.id (by omega) (by omega) ⟨_, by omega, i + 1, _, _, by simp, rfl, by omega, q1, q2, holds_step hHL, holds_step hHM, q3⟩
    have fresh : ∀ w', Kp No w3 w' → a.block < w'.heap.size := fun w' hk => Nat.lt_of_lt_of_le ha hk.size
    have blk : ∀ j, (a.add j).block = a.block := fun j => block_add a j
    refine ⟨⟨by omega, by omega⟩, _, _, hr2, ?_⟩
    simp only [Int.toNat_natCast]
    refine ⟨LetA.blk fun b31 w4 hb31 hB4 hk4 => ?_, LetA.blk fun b31 w4 hb31 hB4 hk4 => ?_⟩
    · refine ⟨hr2.kp hk4 (not_no _), hr1.kp hk4 (not_no _), LetA.blk fun b33 w5 hb33 hB5 hk5 => ?_⟩
      have hk45 := hk4.trans hk5
      have hB45 := hB4.kp hk5 (not_no _)
      refine ⟨hr2.kp hk45 (not_no _), hr1.kp hk45 (not_no _), WrRow.blk hB45 (by simp [notAgg]) (by simp), LetW.row (cs' := #[.int .i64 (F i).1, .int .i64 (F i).2]) hB45 rfl fun w6 hB6 hk6 => ?_⟩
      have hne : b33 ≠ b31 := by have := hB4.lt; omega
      have hB56 := hB5.kp hk6 (fun h => hne h)
      have hk36 := hk45.new1 hk6 (by omega)
      refine ⟨hr2.kp hk36 (not_no _), WrRow.blk hB56 (by simp [notAgg]) (by simp), LetW.row (cs' := #[.int .i64 (F ((i + d) % k)).1, .int .i64 (F ((i + d) % k)).2]) hB56 rfl fun w7 hB7 hk7 => ?_⟩
      have hB67 := hB6.kp hk7 (fun h => hne h.symm)
      have hk37 := hk36.new1 hk7 (by have := hk4.size; omega)
      exact tail_ok (I16 := turnInv w ba ga bb gb k d F) (k20 := k - i) (n19 := i) (b18 := false) (hC.kp hk37 (not_no _) (not_no _)) (hM.kp hk37 (not_no _) (not_no _)) hB67 hB7 hb1 hb2 hHL.1 hHM.1 hab hga hgb' (hK.trans hk37) hfin
    · refine ⟨hr2.kp hk4 (not_no _), hr1.kp hk4 (not_no _), LetA.blk fun b33 w5 hb33 hB5 hk5 => ?_⟩
      have hk45 := hk4.trans hk5
      have hB45 := hB4.kp hk5 (not_no _)
      refine ⟨hr2.kp hk45 (not_no _), hr1.kp hk45 (not_no _), WrRow.blk hB5 (by simp [notAgg]) (by simp), LetW.row (cs' := #[.int .i64 (F i).1, .int .i64 (F i).2]) hB5 rfl fun w6 hB6 hk6 => ?_⟩
      have hne : b33 ≠ b31 := by have := hB4.lt; omega
      have hB46 := hB45.kp hk6 (fun h => hne h.symm)
      have hk36 := hk45.new1 hk6 (by have := hk4.size; omega)
      refine ⟨hr2.kp hk36 (not_no _), WrRow.blk hB46 (by simp [notAgg]) (by simp), LetW.row (cs' := #[.int .i64 (F ((i + d) % k)).1, .int .i64 (F ((i + d) % k)).2]) hB46 rfl fun w7 hB7 hk7 => ?_⟩
      have hB67 := hB6.kp hk7 (fun h => hne h)
      have hk37 := hk36.new1 hk7 (by omega)
      exact tail_ok (I16 := turnInv w ba ga bb gb k d F) (k20 := k - i) (n19 := i) (b18 := false) (hC.kp hk37 (not_no _) (not_no _)) (hM.kp hk37 (not_no _) (not_no _)) hB67 hB7 hb1 hb2 hHL.1 hHM.1 hab hga hgb' (hK.trans hk37) hfin
  · simp at h4
    obtain rfl : i = k := by omega
    have hT := holds_turn hHL hHM
    refine ⟨fun z l w' => ∃ c : Nat, l = [.bool false, .int .i64 c] ∧ z = 4 - c ∧ c ≤ 4 ∧ w' = w3, ⟨4, 0, rfl, rfl, by omega, rfl⟩, ?_⟩
    rintro _ _ _ w3 ⟨c, hl, rfl, hc, rfl⟩
    obtain ⟨rfl, rfl⟩ : _ ∧ _ := by simpa using hl
    refine Br.intro (fun h5 => (get_ca hC c).mono ?_) (fun h5 => (added_ca _).mono ?_)
    · simp at h5
      have hin := getF_in (i := c) hC.ok
      rintro e w4 ⟨rfl, rfl⟩
      refine ⟨_, rfl, (get_ca hM c).mono ?_⟩
      rintro e w4 ⟨rfl, rfl⟩
      refine ⟨_, rfl, Br.neg (by simp [hT c (by omega)]) ((get_ca hC c).mono ?_)⟩
      rintro e w4 ⟨rfl, rfl⟩
      refine ⟨_, rfl, Br.neg (by simp; omega) ((get_ca hC c).mono ?_)⟩
      rintro e w4 ⟨rfl, rfl⟩
      refine ⟨_, rfl, Br.neg (by simp; omega) (LetI.id (by omega) (by omega) ⟨_, ?_, c + 1, ?_, rfl, by omega, rfl⟩)⟩
      · omega
      · simp
    · rintro e w4 ⟨rfl, hk4⟩
      exact ⟨_, rfl, rfl, hK.trans hk4⟩
theorem CountsOrder_law : Law Try.prog 3 Try.f3.params.toList := by
  intro W args hlen harg
  match args, hlen with
  | [v0, v1], _ =>
    obtain ⟨p, k, m, rfl, _, _, hel⟩ := (harg 0 22 v0 rfl rfl).slice Try.underlying22
    obtain ⟨n, rfl, hn⟩ := (harg 1 5 v1 rfl rfl).int Try.underlying5
    obtain ⟨F, hF⟩ := acts_of hel
    exact order_ca p k m n F W hF (wf_u8 hn).1 (wf_u8 hn).2
end Go.Proofs.Ytpnmcimjolmnoaa
