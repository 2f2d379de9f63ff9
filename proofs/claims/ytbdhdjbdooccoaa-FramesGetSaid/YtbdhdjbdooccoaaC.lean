/- Package codec: Int, Text, Read, Unint, Cut. -/
import Derived.Test.YtbdhdjbdooccoaaB
namespace Go.Proofs.Ytbdhdjbdooccoaa
open Go.Vc Go.Codec

theorem int_ca (n : Int) (w : World) : Ca Try.prog 53 #[.int .i64 n] w (Str w (encI n)) := by
  refine int__ok _ _ _ (Br.intro (fun h1 => ⟨?_, Kp.refl _ _⟩) fun h1 => Br.intro (fun h2 => ⟨?_, Kp.refl _ _⟩) fun h2 => ?_)
  · simp at h1; rw [mk_nil]; unfold encI; rw [if_pos (by omega)]
  · simp at h2; rw [mk_nil]; unfold encI; rw [if_pos (by omega)]
  simp at h1 h2
  refine LetI.id (by omega) (by omega) (LetI.eq (m := (((n + 1).toNat : Nat) : Int)) (by rw [IntKind.wrap_u64]; omega) ((num_ca (by omega) w).mono ?_))
  rintro e w1 ⟨rfl, hk⟩
  refine ⟨_, rfl, ?_, hk⟩
  unfold encI; rw [if_neg (by omega)]
theorem text_ca {l : List UInt8} (hl : l.length ≤ 1099511627776) (w : World) : Ca Try.prog 54 #[.string (mk l)] w (Str w (encT l)) := by
  refine text_ok _ _ _ (LetI.eq (m := (l.length : Int)) (by rw [mk_size, IntKind.wrap_u64]; omega) ((num_ca (by omega) w).mono ?_))
  rintro e w1 ⟨rfl, hk⟩
  refine ⟨_, rfl, ?_, ?_, hk⟩
  · rw [mk_size, mk_size, show IntKind.i64.max = 9223372036854775807 by decide]
    have : (encN l.length).length ≤ 9 := encN_len (by omega)
    omega
  · rw [mk_append]; rfl

def Rd3 (w : World) (x : Nat × List UInt8 × Bool) (e : Ending) (w' : World) : Prop := e = .returned (.tuple #[.int .u64 x.1, .string (mk x.2.1), .bool x.2.2]) ∧ Kp No w w'
theorem or_low (a c : Nat) (ha : a < 72057594037927936) (hc : c < 256) : IntKind.u64.wrap ((BitVec.ofInt 64 ((a * 256 : Nat) : Int) ||| BitVec.ofInt 64 (c : Int)).toNat : Int) = ((a * 256 + c : Nat) : Int) := by
  have e : (BitVec.ofInt 64 ((a * 256 : Nat) : Int) ||| BitVec.ofInt 64 (c : Int)).toNat = a * 256 + c := by
    rw [BitVec.toNat_or, BitVec.toNat_ofInt, BitVec.toNat_ofInt]
    rw [show (((a * 256 : Nat) : Int) % ((2 ^ 64 : Nat) : Int)).toNat = a * 256 by omega, show ((c : Int) % ((2 ^ 64 : Nat) : Int)).toNat = c by omega]
    have := Nat.two_pow_add_eq_or_of_lt (i := 8) (b := c) (by omega) a
    rw [Nat.mul_comm a 256, show 256 = 2 ^ 8 from rfl, ← this]
  rw [e, IntKind.wrap_u64]
  omega

theorem val_take {l : List UInt8} {j : Nat} (h : j < l.length) : val (l.take (j + 1)) = val (l.take j) * 256 + l[j].toNat := by
  rw [List.take_succ_eq_append_getElem h, val_snoc]
set_option maxRecDepth 100000 in
set_option maxHeartbeats 1000000 in
theorem read_ca {l : List UInt8} (hl : l.length ≤ 1099511627776) (w : World) : Ca Try.prog 85 #[.string (mk l)] w (Rd3 w (rdN l)) := by
  refine read_ok _ _ _ ?_
  unfold read
  simp only [mk_toList, mk_size, mk_getD]
  match l, hl with
  | [], _ => exact Br.pos rfl ⟨rfl, Kp.refl _ _⟩
  | c :: t, hl =>
    have hc := c.toNat_lt
    simp only [List.length_cons] at hl
    refine Br.neg rfl ⟨⟨by omega, by simp⟩, Br.intro (fun h2 => ?_) (fun h2 => ?_)⟩
    · simp at h2
      refine ⟨⟨by omega, by simp⟩, LetI.eq (m := (c.toNat : Int)) (by simp [IntKind.wrap_u64]; omega) ⟨⟨by omega, by simp; omega, by omega⟩, ?_⟩⟩
      rw [mk_extract, show rdN (c :: t) = (c.toNat, t, true) by simp only [rdN, decN]; rw [if_pos (by omega)]]
      exact ⟨by simp, Kp.refl _ _⟩
    simp at h2
    have hd : decN (c :: t) = if t.length < c.toNat - 247 ∨ t.head? = some 0 ∨ val (t.take (c.toNat - 247)) < 248 then none else some (val (t.take (c.toNat - 247)), t.drop (c.toNat - 247)) := by
      simp only [decN]; rw [if_neg (by omega)]
    have hnone : (t.length < c.toNat - 247 ∨ t.head? = some 0 ∨ val (t.take (c.toNat - 247)) < 248) → rdN (c :: t) = (0, [], false) := fun h => by simp only [rdN]; rw [hd, if_pos h]
    have e0 : (((c :: t).getD 0 0).toNat : Int) = c.toNat := by simp
    rw [e0]
    refine ⟨⟨by omega, by simp⟩, LetI.id (by omega) (by omega) (LetI.id (by omega) (by omega) (LetI.id (by omega) (by omega) (LetI.id (by omega) (by omega) (Br.intro (fun h3 => ?_) (fun h3 => ⟨⟨by omega, ?_⟩, Br.intro (fun h4 => ?_) (fun h4 => ?_)⟩)))))⟩
    · replace h3 := of_decide_eq_true h3
      simp only [List.length_cons] at h3
      rw [hnone (.inl (by omega))]; exact ⟨rfl, Kp.refl _ _⟩
    · replace h3 := of_decide_eq_false h3
      simp only [List.length_cons] at h3 ⊢
      omega
    · replace h3 := of_decide_eq_false h3
      simp only [List.length_cons] at h3
      simp at h4
      rw [hnone (.inr (.inl (by match t, h4 with | d :: u, h4 => simpa using UInt8.toNat_inj.1 h4 | [], _ => simp at h3; omega)))]; exact ⟨rfl, Kp.refl _ _⟩
    replace h3 := of_decide_eq_false h3
    simp only [List.length_cons] at h3
    simp at h4
    have hu : ((c :: t).take (1 + ((c.toNat : Int) - 248 + 1)).toNat).drop 1 = t.take (c.toNat - 247) := by
      rw [show (1 + ((c.toNat : Int) - 248 + 1)).toNat = (c.toNat - 247) + 1 by omega]; rfl
    refine LetI.id (by omega) (by omega) ⟨⟨by omega, by omega, by simp only [List.length_cons]; omega⟩, ?_⟩
    rw [mk_extract, hu]
    have hul : (t.take (c.toNat - 247)).length = c.toNat - 247 := by rw [List.length_take]; omega
    generalize hug : t.take (c.toNat - 247) = u at hul
    refine RunsV.toBytes Try.underlying9 Try.underlying110 Try.underlying5 fun w1 cc hB hk => ⟨_, _, _, rfl, ?_⟩
    simp only [mk_size]
    refine ⟨fun z l w' => ∃ j : Nat, l = [.int .u64 (val (u.take j)), .int .i64 j] ∧ z = u.length - j ∧ j ≤ u.length ∧ w' = w1, ⟨u.length, 0, rfl, rfl, by omega, rfl⟩, ?_⟩
    rintro _ _ _ w2 ⟨j, hl2, rfl, hj, rfl⟩
    obtain ⟨rfl, rfl⟩ : _ ∧ _ := by simpa using hl2
    clear hl2
    refine Br.intro (fun h5 => ?_) (fun h5 => ?_)
    · simp at h5
      have hv := val_lt (u.take j)
      rw [List.length_take, Nat.min_eq_left hj] at hv
      have hp : 256 ^ j ≤ 256 ^ 7 := Nat.pow_le_pow_right (by omega) (by omega)
      have hc' := hB j h5
      have hb := u[j].toNat_lt
      simp only [NilOk, Nat.mul_one, Int.toNat_natCast]
      refine ⟨⟨by omega, by omega⟩, _, hc', by omega, LetI.eq (m := ((val (u.take j) * 256 : Nat) : Int)) (by rw [IntKind.wrap_u64]; omega) (LetI.eq (m := (u[j].toNat : Int)) (by rw [IntKind.wrap_u64]; simp [mk]; omega) (LetI.id (by omega) (by omega) ⟨_, ?_, j + 1, ?_, rfl, by omega, trivial⟩))⟩
      · omega
      · rw [or_low _ _ (by omega) hb, val_take h5]; simp
    · simp at h5
      obtain rfl : j = u.length := by omega
      rw [List.take_length]
      refine Br.intro (fun h6 => ?_) (fun h6 => LetI.id (by omega) (by omega) ⟨⟨by omega, by simp only [List.length_cons]; omega, by omega⟩, ?_⟩)
      · simp at h6
        rw [hnone (.inr (.inr (by rw [hug]; omega)))]; exact ⟨rfl, hk⟩
      · simp at h6
        have h0 : ¬ t.head? = some 0 := by
          match t, h4 with
          | d :: u', h4 =>
            intro h
            have : d = 0 := by simpa using h
            subst this
            simp at h4
          | [], h4 => simp
        have hr : rdN (c :: t) = (val u, t.drop (c.toNat - 247), true) := by
          simp only [rdN]; rw [hd, if_neg (by rw [hug]; simp only [not_or]; exact ⟨by omega, h0, by omega⟩), hug]
        rw [hr, mk_extract]
        refine ⟨?_, hk⟩
        rw [show (1 + ((c.toNat : Int) - 248 + 1)).toNat = (c.toNat - 247) + 1 by omega]
        simp

theorem unint_ca {l : List UInt8} (hl : l.length ≤ 1099511627776) (w : World) : Ca Try.prog 58 #[.string (mk l)] w fun e w' => e = .returned (.tuple #[.int .i64 (unN l).1, .string (mk (unN l).2.1), .bool (unN l).2.2]) ∧ Kp No w w' := by
  refine unint_ok _ _ _ ((read_ca hl w).mono ?_)
  rintro e w1 ⟨rfl, hk⟩
  refine ⟨_, _, _, rfl, Br.intro (fun h1 => ?_) (fun h1 => Br.intro (fun h2 => ?_) (fun h2 => ?_))⟩
  · simp at h1
    rw [show unN l = (0, [], false) by unfold unN; rw [if_pos (.inl h1)]]; exact ⟨rfl, hk⟩
  · simp at h2
    rw [show unN l = (0, [], false) by unfold unN; rw [if_pos (.inr (by omega))]]; exact ⟨rfl, hk⟩
  · simp at h1 h2
    rw [show unN l = (((rdN l).1 : Int) - 1, (rdN l).2.1, true) by unfold unN; rw [if_neg (by simp [h1]; omega)]]
    exact LetI.id (by omega) (by omega) (LetI.id (by omega) (by omega) ⟨rfl, hk⟩)
theorem cut_ca {l : List UInt8} (hl : l.length ≤ 1099511627776) (w : World) : Ca Try.prog 59 #[.string (mk l)] w fun e w' => e = .returned (.tuple #[.string (mk (cutN l).1), .string (mk (cutN l).2.1), .bool (cutN l).2.2]) ∧ Kp No w w' := by
  have hle := rdN_len l
  refine cut_ok _ _ _ ((read_ca hl w).mono ?_)
  rintro e w1 ⟨rfl, hk⟩
  refine ⟨_, _, _, rfl, Br.intro (fun h1 => ?_) (fun h1 => LetI.eq (m := ((rdN l).2.1.length : Int)) (by rw [mk_size, IntKind.wrap_u64]; omega) (Br.intro (fun h2 => ?_) (fun h2 => ?_)))⟩
  · simp at h1
    rw [show cutN l = ([], [], false) by unfold cutN; rw [if_pos (.inl h1)]]; exact ⟨rfl, hk⟩
  · simp at h2
    rw [show cutN l = ([], [], false) by unfold cutN; rw [if_pos (.inr (by omega))]]; exact ⟨rfl, hk⟩
  · simp at h1 h2
    rw [show cutN l = ((rdN l).2.1.take (rdN l).1, (rdN l).2.1.drop (rdN l).1, true) by unfold cutN; rw [if_neg (by simp [h1]; omega)]]
    simp only [mk_size, mk_extract, Int.toNat_natCast]
    refine ⟨⟨by omega, by omega, by omega⟩, ⟨by omega, by omega, by omega⟩, ?_, hk⟩
    simp
end Go.Proofs.Ytbdhdjbdooccoaa
