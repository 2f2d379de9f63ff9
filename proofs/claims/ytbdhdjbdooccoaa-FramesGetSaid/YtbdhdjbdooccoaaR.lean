/- The document's answer for numbers and texts as bytes: the contracts of its functions. -/
import Derived.Test.YtbdhdjbdooccoaaC
namespace Go.Proofs.Ytbdhdjbdooccoaa
open Go.Vc Go.Codec

theorem byteVals_append (a b : List UInt8) : byteVals (a ++ b) = byteVals a ++ byteVals b := by simp [byteVals]
theorem byteVals_len (l : List UInt8) : (byteVals l).length = l.length := by simp [byteVals]
theorem byteVals_one {n : Nat} (h : n < 256) : byteVals [UInt8.ofNat n] = [.int .u8 (n : Int)] := by
  simp only [byteVals, List.map_cons, List.map_nil]; rw [toNat_ofNat h]
def Dig (w : World) (l : List UInt8) (e : Ending) (w' : World) : Prop := ∃ p c, e = .returned (.slice p l.length c) ∧ w'.ownsRow w.heap.size 5 1 (.slice p l.length c) l.length (byteVals l) ∧ Kp No w w'
theorem blk_owns {w : World} {g B : Nat} {l : List UInt8} (h : Blk w g 5 ⟨byteVals l⟩) (hB : B ≤ g) (hl : l.length ≤ maxLen) : w.ownsRow B 5 1 (.slice (some ⟨g, 0, none⟩) l.length l.length) l.length (byteVals l) :=
  owns_blk h hB (Nat.le_refl _) hl (by simp [byteVals]) (by simp [byteVals]) (List.take_of_length_le (by simp [byteVals]))

set_option maxRecDepth 100000 in
theorem digits_ca {n : Nat} (h : n < 18446744073709551616) : ∀ w, Ca Try.prog 106 #[.int .u64 n] w (Dig w (digs n)) := by
  induction n using Nat.strongRecOn with
  | _ n ih =>
  intro w
  obtain ⟨i0, hi0, hz0, hs0, hb0⟩ := info_at infoByte
  refine digits_ok _ _ _ (Br.intro (fun h1 => ?_) (fun h1 => ⟨by decide, LetI.eq (m := ((n / 256 : Nat) : Int)) ?_ ((ih (n / 256) ?_ (by omega) w).mono ?_)⟩))
  · simp at h1
    refine LetI.eq (m := (n : Int)) (by rw [IntKind.wrap_u8]; omega) (LetA.blk fun b w1 hb hB hk => ?_)
    rw [show digs n = [UInt8.ofNat n] by unfold digs; rw [if_pos (by omega)]]
    refine ⟨_, _, rfl, blk_owns ?_ (by omega) (show 1 ≤ maxLen by decide), hk⟩
    rw [byteVals_one (by omega)]; exact hB
  · rw [Int.tdiv_eq_ediv_of_nonneg (by omega), IntKind.wrap_u64]; omega
  · simp at h1; omega
  rintro e w1 ⟨p, c, rfl, hO, hk⟩
  simp at h1
  refine ⟨_, _, _, rfl, by decide, LetI.eq (m := ((n % 256 : Nat) : Int)) (by rw [Int.tmod_eq_emod_of_nonneg (by omega)]; omega) (LetI.eq (m := ((n % 256 : Nat) : Int)) (by rw [IntKind.wrap_u8]; omega) (LetA.blk fun b w2 hb hB hk2 => ?_))⟩
  have hO2 := owns_kp hO hk2 (fun _ _ => not_no _)
  have hl : (digs (n / 256)).length ≤ 8 := digs_len (k := 7) (by omega)
  refine RunsV.append Try.underlying110 hi0 hz0 hs0 hb0 rfl (by decide) hO2 (news := [.int .u8 ((n % 256 : Nat) : Int)]) rfl (fun q u hu => ?_) (by simp [notAgg]) (by simp [maxLen]; omega) (by omega) (Nat.le_trans hk.size hk2.size) fun v' w3 hO3 hk3 _ => ?_
  · match q, hu with
    | 0, hu => rw [add_nought]; exact hB.at_ hu
  obtain ⟨p2, c2, rfl, _⟩ := owns_form hO3
  have e1 : digs n = digs (n / 256) ++ [UInt8.ofNat (n % 256)] := by rw [digs, if_neg (by omega)]
  refine ⟨_, _, _, rfl, p2, c2, ?_, ?_, (hk.trans hk2).step hk3 fun g hg => .inr (owns_at hO2 hg).1⟩
  · rw [e1, List.length_append]; rfl
  · rw [e1, byteVals_append, byteVals_one (by omega), List.length_append]; exact hO3

set_option maxRecDepth 100000 in
theorem rnum_ca {n : Nat} (h : n < 18446744073709551616) (w : World) : Ca Try.prog 84 #[.int .u64 n] w (Str w (encN n)) := by
  obtain ⟨i0, hi0, hz0, hs0, hb0⟩ := info_at infoByte
  refine rnum_ok _ _ _ (Br.intro (fun h1 => ?_) (fun h1 => (digits_ca h w).mono ?_))
  · simp at h1
    refine LetI.eq (m := (n : Int)) (by rw [IntKind.wrap_u8]; omega) (LetA.blk fun b w1 hb hB hk => ?_)
    have hs : Sl w1 b 5 (byteVals [UInt8.ofNat n]) := by rw [byteVals_one (by omega)]; exact hB.sl
    refine RunsV.toStr Try.underlying110 Try.underlying5 Try.underlying9 rfl hs.bytes ⟨_, rfl, ?_, hk⟩
    rw [show encN n = [UInt8.ofNat n] by unfold encN; rw [if_pos (by omega)]]
    rfl
  rintro e w1 ⟨p, c, rfl, hO, hk⟩
  simp at h1
  have hl : (digs n).length ≤ 8 := digs_len (k := 7) (by simpa using h)
  have hp : 0 < (digs n).length := List.length_pos_iff.2 (digs_ne n)
  refine ⟨_, _, _, rfl, LetI.id (by omega) (by omega) (LetI.eq (m := ((247 + (digs n).length : Nat) : Int)) (by rw [IntKind.wrap_u8]; omega) (LetA.blk fun b w2 hb hB hk2 => ?_))⟩
  have hO2 := owns_kp hO hk2 (fun _ _ => not_no _)
  have hO1 : w2.ownsRow w.heap.size 5 1 (.slice (some ⟨b, 0, none⟩) 1 1) 1 (byteVals [UInt8.ofNat (247 + (digs n).length)]) := by
    refine blk_owns (l := [UInt8.ofNat (247 + (digs n).length)]) ?_ (by have := hk.size; omega) (show 1 ≤ maxLen by decide)
    rw [byteVals_one (by omega)]; exact hB
  obtain ⟨p', c', hp', hcl⟩ := owns_form hO2
  obtain ⟨g, hg, _, _, hcell⟩ := hcl hp
  clear hcl
  injection hp' with hpp
  subst hpp
  subst hg
  refine RunsV.append Try.underlying110 hi0 hz0 hs0 hb0 rfl (by decide) hO1 (news := byteVals (digs n)) (by simp [byteVals]) (fun q u hu => ?_) (by simp [notAgg, byteVals]) (by simp [maxLen]; omega) (by omega) (Nat.le_trans hk.size hk2.size) fun v' w3 hO3 hk3 _ => ?_
  · have : (⟨g, 0, none⟩ : Addr).add q = ⟨g, q, none⟩ := by simp [Addr.add]; exact fun h => h.symm
    rw [this]; exact hcell q u hu
  obtain ⟨p2, c2, rfl, _⟩ := owns_form hO3
  rw [← byteVals_append] at hO3
  refine ⟨_, _, _, rfl, RunsV.toStrOwn Try.underlying110 Try.underlying5 Try.underlying9 hO3 (by omega) ⟨_, rfl, ?_, (hk.trans hk2).step hk3 fun g hg => .inr (owns_at hO1 hg).1⟩⟩
  rw [show encN n = UInt8.ofNat (247 + (digs n).length) :: digs n by unfold encN; rw [if_neg (by omega)]]
  rfl

theorem rint_ca (n : Int) (w : World) : Ca Try.prog 56 #[.int .i64 n] w (Str w (encI n)) := by
  refine rint_ok _ _ _ (Br.intro (fun h1 => ⟨?_, Kp.refl _ _⟩) fun h1 => Br.intro (fun h2 => ⟨?_, Kp.refl _ _⟩) fun h2 => ?_)
  · simp at h1; rw [mk_nil]; unfold encI; rw [if_pos (by omega)]
  · simp at h2; rw [mk_nil]; unfold encI; rw [if_pos (by omega)]
  simp at h1 h2
  refine LetI.id (by omega) (by omega) (LetI.eq (m := (((n + 1).toNat : Nat) : Int)) (by rw [IntKind.wrap_u64]; omega) ((rnum_ca (by omega) w).mono ?_))
  rintro e w1 ⟨rfl, hk⟩
  refine ⟨_, rfl, ?_, hk⟩
  unfold encI; rw [if_neg (by omega)]
theorem rtext_ca {l : List UInt8} (hl : l.length ≤ 1099511627776) (w : World) : Ca Try.prog 57 #[.string (mk l)] w (Str w (encT l)) := by
  refine rtext_ok _ _ _ (LetI.eq (m := (l.length : Int)) (by rw [mk_size, IntKind.wrap_u64]; omega) ((rnum_ca (by omega) w).mono ?_))
  rintro e w1 ⟨rfl, hk⟩
  refine ⟨_, rfl, ?_, ?_, hk⟩
  · rw [mk_size, mk_size, show IntKind.i64.max = 9223372036854775807 by decide]
    have : (encN l.length).length ≤ 9 := encN_len (by omega)
    omega
  · rw [mk_append]; rfl

theorem rd_yes {l : List UInt8} {n k : Nat} (h : n < 18446744073709551616) (he : encN n = l.take k) : rdN l = (n, l.drop k, true) := by
  have : l = encN n ++ l.drop k := by rw [he, List.take_append_drop]
  have hd := dec_enc h (l.drop k)
  rw [← this] at hd
  unfold rdN; rw [hd]
theorem rd_no {c : UInt8} {t : List UInt8} (hc : 248 ≤ c.toNat) (hl : c.toNat - 247 ≤ t.length) (he : encN (val (t.take (c.toNat - 247))) ≠ (c :: t).take (1 + (c.toNat - 247))) : rdN (c :: t) = (0, [], false) := by
  unfold rdN
  cases hd : decN (c :: t) with
  | none => rfl
  | some x =>
    exfalso
    obtain ⟨n, r⟩ := x
    have hx := (dec_some hd).1
    simp only [decN] at hd
    rw [if_neg (by omega)] at hd
    split at hd
    · cases hd
    · injection hd with hd
      injection hd with h1 h2
      apply he
      rw [h1]
      have hlen := congrArg List.length hx
      rw [← h2] at hlen
      simp at hlen
      rw [hx, List.take_append_of_le_length (by omega), List.take_of_length_le (by omega)]
theorem byte_beq (a b : List UInt8) : ((mk a).toList == (mk b).toList) = decide (a = b) := by rw [mk_toList, mk_toList]; exact Bool.eq_iff_iff.2 (by simp)

set_option maxRecDepth 100000 in
set_option maxHeartbeats 1000000 in
theorem rread_ca {l : List UInt8} (hl : l.length ≤ 1099511627776) (w : World) : Ca Try.prog 86 #[.string (mk l)] w (Rd3 w (rdN l)) := by
  refine rread_ok _ _ _ ?_
  unfold rread
  simp only [mk_size, mk_getD]
  match l, hl with
  | [], _ => exact Br.pos rfl ⟨rfl, Kp.refl _ _⟩
  | c :: t, hl =>
    have hc := c.toNat_lt
    have e0 : (((c :: t).getD 0 0).toNat : Int) = c.toNat := by simp
    rw [e0]
    simp only [List.length_cons] at hl ⊢
    refine Br.neg (by rw [beq_eq_false_iff_ne]; omega) ⟨⟨by omega, by omega⟩, Br.intro (fun h2 => ?_) (fun h2 => ?_)⟩
    · simp at h2
      have hnone : (t.length < c.toNat - 247) → rdN (c :: t) = (0, [], false) := fun h => by simp only [rdN, decN]; rw [if_neg (by omega), if_pos (.inl h)]
      refine ⟨⟨by omega, by omega⟩, LetI.id (by omega) (by omega) (LetI.id (by omega) (by omega) (LetI.id (by omega) (by omega) (Br.intro (fun h3 => ?_) (fun h3 => ?_))))⟩
      · replace h3 := of_decide_eq_true h3
        rw [hnone (by omega)]; exact ⟨rfl, Kp.refl _ _⟩
      replace h3 := of_decide_eq_false h3
      have hul : (t.take (c.toNat - 247)).length = c.toNat - 247 := by rw [List.length_take]; omega
      refine ⟨fun z l w' => ∃ j : Nat, l = [.int .u64 (val (t.take j)), .int .i64 ((j : Int) + 1)] ∧ z = (c.toNat - 247) - j ∧ j ≤ c.toNat - 247 ∧ w' = w, ⟨c.toNat - 247, 0, rfl, rfl, by omega, rfl⟩, ?_⟩
      rintro _ _ _ w2 ⟨j, hl2, rfl, hj, rfl⟩
      obtain ⟨rfl, rfl⟩ : _ ∧ _ := by simpa using hl2
      clear hl2
      refine Br.intro (fun h5 => ?_) (fun h5 => ?_)
      · replace h5 := of_decide_eq_true h5
        have hjl : j < t.length := by omega
        have hv := val_lt (t.take j)
        rw [List.length_take, Nat.min_eq_left (by omega)] at hv
        have hp : 256 ^ j ≤ 256 ^ 7 := Nat.pow_le_pow_right (by omega) (by omega)
        have hb := t[j].toNat_lt
        have hg : (((c :: t).getD ((j : Int) + 1).toNat 0).toNat : Int) = t[j].toNat := by
          rw [show ((j : Int) + 1).toNat = j + 1 by omega]; simp [hjl]
        rw [hg]
        refine LetI.eq (m := ((val (t.take j) * 256 : Nat) : Int)) (by rw [IntKind.wrap_u64]; omega) ⟨⟨by omega, by omega⟩, LetI.eq (m := (t[j].toNat : Int)) (by rw [IntKind.wrap_u64]; omega) (LetI.eq (m := ((val (t.take j) * 256 + t[j].toNat : Nat) : Int)) (by rw [IntKind.wrap_u64]; omega) (LetI.id (by omega) (by omega) ⟨c.toNat - 247 - (j + 1), by omega, j + 1, ?_, rfl, by omega, rfl⟩))⟩
        rw [val_take hjl]; simp
      · replace h5 := of_decide_eq_false h5
        obtain rfl : j = c.toNat - 247 := by omega
        have hv := val_lt (t.take (c.toNat - 247))
        rw [hul] at hv
        have hp : 256 ^ (c.toNat - 247) ≤ 256 ^ 8 := Nat.pow_le_pow_right (by omega) (by omega)
        refine Br.neg (by rw [beq_eq_false_iff_ne]; omega) (LetI.id (by omega) (by omega) ⟨⟨by omega, by omega, by omega⟩, (rnum_ca (by omega) w2).mono ?_⟩)
        rintro e w3 ⟨rfl, hk⟩
        have ee : (1 + ((c.toNat : Int) - 247)).toNat = 1 + (c.toNat - 247) := by omega
        refine ⟨_, rfl, ?_⟩
        rw [mk_extract, byte_beq, ee, List.drop_zero]
        refine Br.intro (fun h6 => ?_) (fun h6 => LetI.id (by omega) (by omega) ⟨⟨by omega, by omega, by omega⟩, ?_⟩)
        · rw [rd_no (by omega) (by omega) (by simpa using h6)]; exact ⟨rfl, hk⟩
        · simp only [Bool.not_eq_false', decide_eq_true_eq] at h6
          rw [rd_yes (by omega) h6, ee, mk_extract]
          refine ⟨?_, hk⟩
          rw [List.take_of_length_le (l := c :: t) (by simp only [List.length_cons]; omega)]
    · simp at h2
      refine LetI.id (by omega) (by omega) (Br.neg (by simp; omega) ⟨fun z l w' => l = [.int .u64 0, .int .i64 1] ∧ w' = w, ⟨0, rfl, rfl⟩, ?_⟩)
      rintro _ _ _ w2 ⟨hl2, rfl⟩
      obtain ⟨rfl, rfl⟩ : _ ∧ _ := by simpa using hl2
      refine Br.neg (by decide) ⟨⟨by omega, by omega⟩, LetI.eq (m := (c.toNat : Int)) (by rw [IntKind.wrap_u64]; omega) (LetI.id (by omega) (by omega) ⟨⟨by omega, by omega, by omega⟩, (rnum_ca (by omega) w2).mono ?_⟩)⟩
      rintro e w3 ⟨rfl, hk⟩
      have he : encN c.toNat = (c :: t).take 1 := by unfold encN; rw [if_pos (by omega)]; simp
      refine ⟨_, rfl, ?_⟩
      rw [mk_extract, byte_beq, List.drop_zero]
      refine Br.neg (by rw [show (1 + 0 : Int).toNat = 1 by decide, ← he]; simp) (LetI.id (by omega) (by omega) ⟨⟨by omega, by omega, by omega⟩, ?_⟩)
      rw [rd_yes (by omega) he, mk_extract]
      refine ⟨?_, hk⟩
      rw [List.take_of_length_le (l := c :: t) (by simp only [List.length_cons]; omega)]; rfl

theorem runint_ca {l : List UInt8} (hl : l.length ≤ 1099511627776) (w : World) : Ca Try.prog 60 #[.string (mk l)] w fun e w' => e = .returned (.tuple #[.int .i64 (unN l).1, .string (mk (unN l).2.1), .bool (unN l).2.2]) ∧ Kp No w w' := by
  refine runint_ok _ _ _ ((rread_ca hl w).mono ?_)
  rintro e w1 ⟨rfl, hk⟩
  refine ⟨_, _, _, rfl, Br.intro (fun h1 => ?_) (fun h1 => Br.intro (fun h2 => ?_) (fun h2 => ?_))⟩
  · simp at h1
    rw [show unN l = (0, [], false) by unfold unN; rw [if_pos (.inl h1)]]; exact ⟨rfl, hk⟩
  · simp at h2
    rw [show unN l = (0, [], false) by unfold unN; rw [if_pos (.inr (by omega))]]; exact ⟨rfl, hk⟩
  · simp at h1 h2
    rw [show unN l = (((rdN l).1 : Int) - 1, (rdN l).2.1, true) by unfold unN; rw [if_neg (by simp [h1]; omega)]]
    exact LetI.id (by omega) (by omega) (LetI.id (by omega) (by omega) ⟨rfl, hk⟩)
theorem rcut_ca {l : List UInt8} (hl : l.length ≤ 1099511627776) (w : World) : Ca Try.prog 61 #[.string (mk l)] w fun e w' => e = .returned (.tuple #[.string (mk (cutN l).1), .string (mk (cutN l).2.1), .bool (cutN l).2.2]) ∧ Kp No w w' := by
  have hle := rdN_len l
  refine rcut_ok _ _ _ ((rread_ca hl w).mono ?_)
  rintro e w1 ⟨rfl, hk⟩
  refine ⟨_, _, _, rfl, Br.intro (fun h1 => ?_) (fun h1 => LetI.eq (m := ((rdN l).2.1.length : Int)) (by rw [mk_size, IntKind.wrap_u64]; omega) (Br.intro (fun h2 => ?_) (fun h2 => ?_)))⟩
  · simp at h1
    rw [show cutN l = ([], [], false) by unfold cutN; rw [if_pos (.inl h1)]]; exact ⟨rfl, hk⟩
  · simp at h2
    rw [show cutN l = ([], [], false) by unfold cutN; rw [if_pos (.inr (by omega))]]; exact ⟨rfl, hk⟩
  · simp at h1 h2
    rw [show cutN l = ((rdN l).2.1.take (rdN l).1, (rdN l).2.1.drop (rdN l).1, true) by unfold cutN; rw [if_neg (by simp [h1]; omega)]]
    simp only [mk_size, mk_extract, Int.toNat_natCast]
    refine LetI.id (by omega) (by omega) ⟨⟨by omega, by omega, by omega⟩, LetI.id (by omega) (by omega) ⟨⟨by omega, by omega, by omega⟩, ?_, hk⟩⟩
    simp
end Go.Proofs.Ytbdhdjbdooccoaa
