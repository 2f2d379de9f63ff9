/- Package codec: the contracts of its functions. -/
import Derived.Test.YtbdhdjbdooccoaaD
import Derived.Test.YtbdhdjbdooccoaaV9
import Derived.Test.YtbdhdjbdooccoaaV10
namespace Go.Proofs.Ytbdhdjbdooccoaa
open Go.Vc Go.Codec

theorem infoByte : (Try.prog.info? 5).map (fun i => (i.zero, i.size, i.bytes)) = some (some (.int .u8 0), 1, 1) := by kernel_rfl
theorem add_nought (a : Addr) : a.add 0 = a := by simp [Addr.add]
def Str (w : World) (l : List UInt8) (e : Ending) (w' : World) : Prop := e = .returned (.string (mk l)) ∧ Kp No w w'

theorem size_ca {n : Nat} (h : n < 18446744073709551616) (w : World) : Ca Try.prog 105 #[.int .u64 n] w fun e w' => e = .returned (.int .i64 (sz n)) ∧ w' = w := by
  have hs := sz_le 8 (n := n) (by simpa using h)
  refine size_ok _ _ _ ⟨fun k l w' => ∃ j m : Nat, l = [.int .i64 j, .int .u64 m] ∧ k = m ∧ j + sz m = sz n ∧ m < 18446744073709551616 ∧ w' = w, ⟨n, 0, n, rfl, rfl, by omega, h, rfl⟩, ?_⟩
  rintro _ _ m w ⟨j, m1, hl, hmm, hj, hm, rfl⟩
  subst hmm
  obtain ⟨rfl, rfl⟩ : _ ∧ _ := by simpa using hl
  refine Br.intro (fun h1 => LetI.id (by omega) (by omega) ⟨by omega, LetI.eq (m := ((m / 256 : Nat) : Int)) ?_ ⟨m / 256, ?_, j + 1, m / 256, by simp, rfl, ?_, by omega, rfl⟩⟩) (fun h1 => ⟨?_, rfl⟩)
  · rw [Int.fdiv_eq_ediv_of_nonneg _ (by decide)]; simp
  · simp at h1; omega
  · simp at h1
    rw [sz_pos (n := m) (by omega)] at hj; omega
  · simp at h1
    subst h1
    rw [sz_zero] at hj
    rw [show j = sz n by omega]

theorem byteVals_snoc (l : List UInt8) (c : UInt8) : byteVals (l ++ [c]) = byteVals l ++ [.int .u8 (c.toNat : Int)] := by simp [byteVals]
set_option maxRecDepth 100000 in
set_option maxHeartbeats 1000000 in
theorem num_ca {n : Nat} (h : n < 18446744073709551616) (w : World) : Ca Try.prog 83 #[.int .u64 n] w (Str w (encN n)) := by
  refine num_ok _ _ _ (Br.intro (fun h1 => ?_) (fun h1 => (size_ca h w).mono ?_))
  · simp at h1
    refine LetI.eq (m := (n : Int)) (by rw [IntKind.wrap_u8]; omega) (LetA.blk fun b w1 hb hB hk => ?_)
    have hl : byteVals [UInt8.ofNat n] = [.int .u8 n] := by simp [byteVals]; omega
    have hs : Sl w1 b 5 (byteVals [UInt8.ofNat n]) := by rw [hl]; exact hB.sl
    refine RunsV.toStr Try.underlying110 Try.underlying5 Try.underlying9 rfl hs.bytes ⟨_, rfl, ?_, hk⟩
    rw [show encN n = [UInt8.ofNat n] by unfold encN; rw [if_pos (by omega)]]
    rfl
  rintro e w1 ⟨rfl, rfl⟩
  simp at h1
  have h8 := sz_le 8 (n := n) (by simpa using h)
  have hz := sz_pos (n := n) (by omega)
  obtain ⟨i0, hi0, hz0, hs0, hb0⟩ := info_at infoByte
  refine ⟨_, rfl, RunsV.make2 Try.underlying110 hi0 hz0 hs0 rfl hb0 (by omega) (by omega) (by omega) (by omega) fun w2 hB hk => ⟨_, _, _, rfl, LetI.id (by omega) (by omega) (LetI.eq (m := ((247 + sz n : Nat) : Int)) (by rw [IntKind.wrap_u8]; omega) ⟨⟨by omega, by decide⟩, ?_, ?_⟩)⟩⟩
  · exact hB.wr (v := .int .u8 0) rfl
  refine LetW.blk hB rfl fun w3 hB3 hk3 => LetI.id (by omega) (by omega) ?_
  have hc : (UInt8.ofNat (247 + sz n)).toNat = 247 + sz n := toNat_ofNat (by omega)
  have hK3 : Kp No w1 w3 := hk.new1 hk3 (Nat.le_refl _)
  refine ⟨fun k l w' => ∃ (i : Nat) (p : Option Addr) (m c : Nat), l = [.slice p m c, .int .i64 ((i : Int) - 1)] ∧ k = i ∧ i ≤ sz n ∧ w'.ownsRow w1.heap.size 5 1 (.slice p m c) (1 + (sz n - i)) (byteVals (UInt8.ofNat (247 + sz n) :: ds n i)) ∧ Kp No w1 w',
    ⟨sz n, sz n, _, _, _, rfl, rfl, Nat.le_refl _, ?_, hK3⟩, ?_⟩
  · rw [ds_top, Nat.sub_self]
    refine owns_blk hB3 (Nat.le_refl _) (by decide) (by decide) (by simp) (by simp [byteVals]) ?_
    simp [byteVals]; omega
  rintro p m c _ i w4 ⟨i', p', m', c', hl, hii, hi, hO, hK⟩
  subst hii
  obtain ⟨⟨rfl, rfl, rfl⟩, rfl⟩ : (p = p' ∧ m = m' ∧ c = c') ∧ _ := by simpa using hl
  refine Br.intro (fun h4 => ?_) (fun h4 => ?_)
  · simp at h4
    have hi1 : 1 ≤ i := by omega
    obtain ⟨j, rfl⟩ : ∃ j, i = j + 1 := ⟨i - 1, by omega⟩
    have hb := ds_step (n := n) (i := j) (by omega)
    have hd : (n : Int).fdiv (2 ^ min (8 * (((j + 1 : Nat) : Int) - 1)).toNat 64) = ((n / 256 ^ j : Nat) : Int) := by
      rw [show min (8 * (((j + 1 : Nat) : Int) - 1)).toNat 64 = 8 * j by omega, Int.fdiv_eq_ediv_of_nonneg _ (Int.le_of_lt (Int.pow_pos (by omega))), show (256 : Nat) ^ j = 2 ^ (8 * j) by rw [show (256 : Nat) = 2 ^ 8 from rfl, ← Nat.pow_mul]]
      simp
    refine LetI.id (by omega) (by omega) ⟨by omega, LetI.eq hd (LetI.eq (m := ((n / 256 ^ j % 256 : Nat) : Int)) (by rw [IntKind.wrap_u8]; omega) (LetA.blk fun b w5 hb5 hB5 hk5 => ?_))⟩
    have hO5 := owns_kp hO hk5 (fun _ _ => not_no _)
    refine RunsV.append Try.underlying110 hi0 hz0 hs0 hb0 rfl (by decide) hO5 (news := [.int .u8 ((n / 256 ^ j % 256 : Nat) : Int)]) rfl (fun q u hu => ?_) (by simp [notAgg]) (by simp [maxLen]; omega) (by omega) (Nat.le_trans hK.size hk5.size) fun v' w6 hO6 hk6 _ => ?_
    · match q, hu with
      | 0, hu => rw [add_nought]; exact hB5.at_ hu
    obtain ⟨p2, c2, rfl, _⟩ := owns_form hO6
    refine ⟨_, _, _, rfl, LetI.id (by omega) (by omega) ⟨_, Nat.lt_succ_self j, j, p2, _, c2, congrArg (fun q => [_, Value.int .i64 q]) (show ((j + 1 : Nat) : Int) - 1 - 1 = (j : Int) - 1 by omega), rfl, by omega, ?_, ?_⟩⟩
    · have e1 : 1 + (sz n - (j + 1)) + 1 = 1 + (sz n - j) := by omega
      have e2 : byteVals (UInt8.ofNat (247 + sz n) :: ds n j) = byteVals (UInt8.ofNat (247 + sz n) :: ds n (j + 1)) ++ [.int .u8 ((n / 256 ^ j % 256 : Nat) : Int)] := by
        rw [hb, ← List.cons_append, byteVals_snoc, toNat_ofNat (by omega)]
      rw [e2, ← e1]
      exact hO6
    · exact (hK.trans hk5).step hk6 fun g hg => .inr (owns_at hO5 hg).1
  · simp at h4
    obtain rfl : i = 0 := by omega
    refine RunsV.toStrOwn Try.underlying110 Try.underlying5 Try.underlying9 hO (by omega) ⟨_, rfl, ?_, hK⟩
    rw [show encN n = UInt8.ofNat (247 + sz n) :: ds n 0 by unfold encN; rw [if_neg (by omega), digs_sz (by omega), ds_zero (by omega)]]
    rfl
end Go.Proofs.Ytbdhdjbdooccoaa
