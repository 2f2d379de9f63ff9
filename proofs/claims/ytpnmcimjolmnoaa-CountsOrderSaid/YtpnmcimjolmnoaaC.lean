/- Package counts and its reference: New, List, Copy, Add of the reference; same. -/
import Derived.Test.YtpnmcimjolmnoaaB
namespace Go.Proofs.Ytpnmcimjolmnoaa
open Go.Vc

theorem make51 {w : World} {n : Int} (h0 : 0 ≤ n) (h1 : n ≤ 64) {K : Value → World → Prop} (hK : ∀ w', Sl w' w.heap.size 51 (Ints (List.replicate n.toNat 0)) → Kp No w w' → K (.slice (some ⟨w.heap.size, 0, none⟩) n.toNat n.toNat) w') :
    RunsV Try.prog (Instr.makeSlice 43 (.int .i64 n) (.int .i64 n)) w K := by
  obtain ⟨i0, hi0, hz0, hs0, hb0⟩ := info_at info51
  refine RunsV.make1 Try.underlying43 hi0 hz0 hs0 rfl hb0 h0 (by omega) (by omega) fun w' hb hk => hK w' ?_ hk
  rw [ints_rep] at hb
  exact hb.sl
theorem make2 {w : World} {n : Int} (h0 : 0 ≤ n) (h1 : n ≤ 64) {K : Value → World → Prop} (hK : ∀ w', Sl w' w.heap.size 2 (Ints (List.replicate n.toNat 0)) → Kp No w w' → K (.slice (some ⟨w.heap.size, 0, none⟩) n.toNat n.toNat) w') :
    RunsV Try.prog (Instr.makeSlice 34 (.int .i64 n) (.int .i64 n)) w K := by
  obtain ⟨i0, hi0, hz0, hs0, hb0⟩ := info_at info2
  refine RunsV.make1 Try.underlying34 hi0 hz0 hs0 rfl hb0 h0 (by omega) (by omega) fun w' hb hk => hK w' ?_ hk
  rw [ints_rep] at hb
  exact hb.sl

theorem new_bad (n : Int) (w : World) (h : n < 1 ∨ 64 < n) : Ca Try.prog 7 #[.int .i64 n] w fun e w' => e = .returned (.tuple #[.pointer none, .int .i64 2]) ∧ w' = w := by
  refine new__ok _ _ _ (Br.intro (fun _ => ⟨rfl, rfl⟩) fun h1 => Br.intro (fun _ => ⟨rfl, rfl⟩) fun h2 => ?_)
  simp at h1 h2; omega
theorem rnew_bad (n : Int) (w : World) (h : n < 1 ∨ 64 < n) : Ca Try.prog 10 #[.int .i64 n] w fun e w' => e = .returned (.tuple #[.slice none 0 0, .int .i64 2]) ∧ w' = w := by
  refine rnew_ok _ _ _ (Br.intro (fun _ => ⟨rfl, rfl⟩) fun h1 => Br.intro (fun _ => ⟨rfl, rfl⟩) fun h2 => ?_)
  simp at h1 h2; omega
theorem new_good (n : Int) (w : World) (h : 1 ≤ n) (h' : n ≤ 64) : Ca Try.prog 7 #[.int .i64 n] w fun e w' => ∃ b g, e = .returned (.tuple #[.pointer (some ⟨b, 0, none⟩), .int .i64 0]) ∧
    Cn w' b g (List.replicate n.toNat 0) ∧ Kp No w w' ∧ w.heap.size ≤ b ∧ w.heap.size ≤ g := by
  refine new__ok _ _ _ (Br.neg (by simp; omega) (Br.neg (by simp; omega) (make51 (by omega) h' fun w1 hs hk => ⟨_, _, _, rfl, LetA.blk fun b w2 hb hB hk2 => ?_⟩)))
  subst hb
  refine ⟨_, _, rfl, ⟨?_, hs.kp hk2 (not_no _), by simp; omega, by simp; omega, ?_⟩, hk.trans hk2, hk.size, Nat.le_refl _⟩
  · simpa using hB
  · intro m hm
    have := (List.mem_replicate.1 hm).2
    omega
theorem rnew_good (n : Int) (w : World) (h : 1 ≤ n) (h' : n ≤ 64) : Ca Try.prog 10 #[.int .i64 n] w fun e w' => ∃ g c, e = .returned (.tuple #[.slice (some ⟨g, 0, none⟩) n.toNat c, .int .i64 0]) ∧
    Sl w' g 2 (Ints (List.replicate n.toNat 0)) ∧ Kp No w w' ∧ w.heap.size ≤ g :=
  rnew_ok _ _ _ (Br.neg (by simp; omega) (Br.neg (by simp; omega) (make2 (by omega) h' fun w1 hs hk => ⟨_, _, _, rfl, _, _, rfl, hs, hk, Nat.le_refl _⟩)))

/-- the first i of L, and noughts behind -/
def part (L : List Int) (i : Nat) : List Int := L.take i ++ List.replicate (L.length - i) 0
theorem part_len (L : List Int) {i : Nat} (h : i ≤ L.length) : (part L i).length = L.length := by simp [part]; omega
theorem part_set {L : List Int} {i : Nat} (h : i < L.length) : (part L i).set i (getF L i) = part L (i + 1) := by
  have hg := get_at h
  apply List.ext_getElem?
  intro j
  unfold part
  rw [show L.length - i = (L.length - (i + 1)) + 1 by omega, List.replicate_succ]
  rw [List.getElem?_set]
  by_cases hj : i = j
  · subst hj
    have e : L[i] = getF L i := by simpa [List.getElem?_eq_getElem h] using hg
    simp [h, List.getElem?_append]
    rw [if_pos (by omega), if_pos (by omega), e]
  · rw [if_neg hj]
    simp only [List.getElem?_append, List.length_take, List.getElem?_take, Nat.min_eq_left (Nat.le_of_lt h), Nat.min_eq_left (show i + 1 ≤ L.length from h)]
    by_cases h1 : j < i
    · rw [if_pos h1, if_pos h1, if_pos (by omega), if_pos (by omega)]
    · rw [if_neg h1, if_neg (by omega), show j - i = (j - (i + 1)) + 1 by omega]
      simp
theorem part_zero (L : List Int) : part L 0 = List.replicate L.length 0 := by simp [part]
theorem part_all (L : List Int) : part L L.length = L := by simp [part]

theorem list_ca {w : World} {b g : Nat} {L : List Int} (h : Cn w b g L) : Ca Try.prog 14 #[.pointer (some ⟨b, 0, none⟩)] w fun e w' => ∃ g' c, e = .returned (.slice (some ⟨g', 0, none⟩) L.length c) ∧
    Sl w' g' 2 (Ints L) ∧ Kp No w w' ∧ w.heap.size ≤ g' := by
  refine list__ok _ _ _ ((isnone_ca h).mono ?_)
  rintro e w1 ⟨rfl, rfl⟩
  have hf := h.few
  refine ⟨_, rfl, Br.neg rfl ⟨_, _, _, h.head.at_ rfl, make2 (by omega) (by omega) fun w2 hs hk => ⟨_, _, _, rfl, ?_⟩⟩⟩
  have h2 := h.kp hk (not_no _) (not_no _)
  refine ⟨_, _, _, h2.head.at_ rfl, fun k l w' => ∃ i : Nat, l = [.int .i64 i] ∧ k = L.length - i ∧ i ≤ L.length ∧ Sl w' w1.heap.size 2 (Ints (part L i)) ∧ Kp No w1 w', ⟨L.length, 0, rfl, rfl, by omega, ?_, hk⟩, ?_⟩
  · rw [part_zero]; simpa using hs
  rintro _ _ w ⟨i, hl, rfl, hi, hS, hK⟩
  obtain rfl : _ = _ := by simpa using hl
  have h3 := h.kp hK (not_no _) (not_no _)
  refine Br.intro (fun h4 => ⟨_, _, _, h3.head.at_ rfl, ⟨by omega, by simpa using h4⟩, ?_⟩) (fun h4 => ⟨_, _, rfl, ?_, hK, Nat.le_refl _⟩)
  · simp at h4
    rw [Int.toNat_natCast, at_eq]
    refine (load_ca (h3.row.get (ints_at (get_at h4)))).mono ?_
    rintro e w3 ⟨rfl, rfl⟩
    refine ⟨_, rfl, ?_⟩
    simp only [NilOk, at_eq]
    refine ⟨⟨by omega, by simp; omega⟩, hS.wr (by rw [ints_len, part_len L hi]; exact h4), LetW.sl hS (by rw [ints_len, part_len L hi]; exact h4) fun w4 hS4 hk4 => LetI.id (by omega) (by omega) ⟨_, ?_, i + 1, ?_, rfl, by omega, ?_, ?_⟩⟩
    · omega
    · simp
    · rw [ints_set, part_set h4] at hS4; exact hS4
    · exact hK.new1 hk4 (Nat.le_refl _)
  · simp at h4
    rw [show i = L.length by omega, part_all] at hS
    simpa using hS

theorem copy_ca {w : World} {b g : Nat} {L : List Int} (h : Cn w b g L) : Ca Try.prog 11 #[.pointer (some ⟨b, 0, none⟩)] w fun e w' => ∃ b' g', e = .returned (.pointer (some ⟨b', 0, none⟩)) ∧
    Cn w' b' g' L ∧ Kp No w w' ∧ w.heap.size ≤ b' ∧ w.heap.size ≤ g' := by
  refine copy__ok _ _ _ ((isnone_ca h).mono ?_)
  rintro e w1 ⟨rfl, rfl⟩
  have hf := h.few
  refine ⟨_, rfl, Br.neg rfl ⟨_, _, _, h.head.at_ rfl, make51 (by omega) (by omega) fun w2 hs hk => ⟨_, _, _, rfl, LetA.blk fun b' w3 hb' hB' hk3 => ?_⟩⟩⟩
  have h3 := h.kp (hk.trans hk3) (not_no _) (not_no _)
  have hs3 := hs.kp hk3 (not_no _)
  have hsz := hk.size
  refine (list_ca h3).mono ?_
  rintro e w4 ⟨gl, cl, rfl, hl4, hk4, hg4⟩
  have hs4 := hs3.kp hk4 (not_no _)
  have hB4 := hB'.kp hk4 (not_no _)
  simp only [Int.toNat_natCast] at hs4 hB4
  have hn : b' ≠ w1.heap.size := by
    obtain ⟨tl, hr⟩ := hs4
    exact Blk.ne_ hB4 hr (by decide)
  refine ⟨_, _, _, rfl, fun k l w' => ∃ i : Nat, l = [.int .i64 i] ∧ k = L.length - i ∧ i ≤ L.length ∧ Sl w' w1.heap.size 51 (Ints (part L i)) ∧ Sl w' gl 2 (Ints L) ∧ Blk w' b' 45 #[.slice (some ⟨w1.heap.size, 0, none⟩) L.length L.length] ∧ Kp No w1 w',
    ⟨L.length, 0, rfl, rfl, by omega, ?_, hl4, hB4, (hk.trans hk3).trans hk4⟩, ?_⟩
  · rw [part_zero]; exact hs4
  rintro _ _ w ⟨i, hl, rfl, hi, hS, hG, hB, hK⟩
  obtain rfl : _ = _ := by simpa using hl
  refine Br.intro (fun h4 => ?_) (fun h4 => ⟨_, _, rfl, ⟨hB, ?_, h.some_, h.few, h.ok⟩, hK, by omega, Nat.le_refl _⟩)
  · simp at h4
    simp only [NilOk, Int.toNat_natCast, at_eq]
    refine ⟨⟨by omega, by omega⟩, _, hG.get (ints_at (get_at h4)), _, _, _, hB.at_ rfl, ?_⟩
    simp only [at_eq]
    refine ⟨⟨by omega, by omega⟩, ?_⟩
    have hlen : i < (Ints (part L i)).length := by rw [ints_len, part_len L hi]; exact h4
    have hv : (Ints (part L i))[i]? = some (Ints (part L i))[i] := by simp [hlen]
    refine (store_ca (F := fun w' => Sl w' w1.heap.size 51 ((Ints (part L i)).set i (.int .i64 (getF L i))) ∧ Kp (One w1.heap.size) w w') (hS.get hv) (hS.wr hlen).2 (LetW.sl hS hlen fun w5 h5 k5 => ⟨h5, k5⟩)).mono ?_
    rintro e w5 ⟨rfl, h5, k5⟩
    rw [ints_set, part_set h4] at h5
    refine ⟨rfl, LetI.id (by omega) (by omega) ⟨_, ?_, i + 1, ?_, rfl, by omega, h5, hG.kp k5 ?_, hB.kp k5 (fun hb => hn hb), hK.new1 k5 (Nat.le_refl _)⟩⟩
    · omega
    · simp
    · exact fun hb => hG.ne_ hS (by decide) hb
  · simp at h4
    rw [show i = L.length by omega, part_all] at hS
    exact hS

theorem add_eq (g k : Nat) : (⟨g, 0, none⟩ : Addr).add k = ⟨g, k, none⟩ := by simp [Addr.add]; exact fun h => h.symm
theorem set_at {xs : List Value} {i : Nat} (h : i < xs.length) (u : Value) : (xs.set i u)[i]? = some u := by simp [h]
/-- the reference's Add -/
theorem radd_ca {w : World} {g c : Nat} {L : List Int} (h : Sl w g 2 (Ints L)) (h0 : 0 < L.length) (h1 : L.length ≤ 64) (hok : ∀ n ∈ L, 0 ≤ n ∧ n ≤ 4611686018427387904) (i by_ : Int) (hby : by_ ≤ 9223372036854775807) :
    Ca Try.prog 12 #[.slice (some ⟨g, 0, none⟩) L.length c, .int .i64 i, .int .i64 by_] w fun e w' => ∃ g' c',
      e = .returned (.tuple #[.slice (some ⟨g', 0, none⟩) L.length c', .int .i64 (addF L i by_).2.1, .int .i64 (addF L i by_).2.2]) ∧ Sl w' g' 2 (Ints (addF L i by_).1) ∧ Kp No w w' ∧ (g' = g ∨ w.heap.size ≤ g') := by
  refine radd_ok _ _ _ _ _ _ _ (Br.intro (fun h1 => ?_) fun h1 => Br.intro (fun h2 => ?_) fun h2 => Br.intro (fun h3 => ?_) fun h3 => ?_)
  · simp at h1; rw [show addF L i by_ = (L, 0, 2) by simp [addF, h1]]; exact ⟨_, _, rfl, h, Kp.refl _ _, .inl rfl⟩
  · simp at h1 h2; rw [show addF L i by_ = (L, 0, 4) by unfold addF; rw [if_neg (by omega), if_pos (by omega)]]; exact ⟨_, _, rfl, h, Kp.refl _ _, .inl rfl⟩
  · simp at h1 h2 h3; rw [show addF L i by_ = (L, 0, 4) by unfold addF; rw [if_neg (by omega), if_pos (by omega)]]; exact ⟨_, _, rfl, h, Kp.refl _ _, .inl rfl⟩
  simp at h1 h2 h3
  rw [show addF L i by_ = (L.set i.toNat (addV L i by_), addV L i by_, 0) by unfold addF; rw [if_neg (by omega), if_neg (by omega)]]
  have hin := getF_in (i := i) hok
  have hx : i.toNat < L.length := by omega
  have hg := get_at hx
  rw [show ((i.toNat : Nat) : Int) = i by omega] at hg
  obtain ⟨i0, hi0, hz0, hs0, hb0⟩ := info_at info2
  refine RunsV.clone Try.underlying34 hi0 hz0 hs0 hb0 rfl (by decide) h0 (by rw [ints_len, Nat.mul_one]) (news := Ints L) (fun j u hu => ?_) ?_ (by simp [maxLen]; omega) (by omega) fun w2 c2 hs hk => ?_
  · have := h.get hu
    rw [add_eq]; exact this
  · intro u hu
    obtain ⟨n, _, rfl⟩ := List.mem_map.1 hu
    rfl
  have hlen : i.toNat < (Ints L).length := by rw [ints_len]; exact hx
  refine ⟨_, _, _, rfl, ?_⟩
  simp only [NilOk, at_eq]
  refine ⟨⟨by omega, by omega⟩, _, hs.get (ints_at hg), LetI.id (by omega) (by omega) (Br.intro (fun h4 => ⟨⟨by omega, by omega⟩, hs.wr hlen, LetW.sl hs hlen fun w3 hs3 hk3 => ⟨⟨by omega, by omega⟩, _, hs3.get (set_at hlen _), ?_⟩⟩)
    (fun h4 => ⟨⟨by omega, by omega⟩, _, hs.get (ints_at hg), LetI.id (by simp at h4; omega) (by simp at h4; omega) ⟨⟨by omega, by omega⟩, hs.wr hlen, LetW.sl hs hlen fun w3 hs3 hk3 => ⟨⟨by omega, by omega⟩, _, hs3.get (set_at hlen _), ?_⟩⟩⟩))⟩
  · simp at h4
    rw [ints_set] at hs3
    rw [show addV L i by_ = 4611686018427387904 by unfold addV; omega]
    exact ⟨_, _, rfl, hs3, hk.new1 hk3 (Nat.le_refl _), .inr (Nat.le_refl _)⟩
  · simp at h4
    rw [ints_set] at hs3
    rw [show addV L i by_ = getF L i + by_ by unfold addV; omega]
    exact ⟨_, _, rfl, hs3, hk.new1 hk3 (Nat.le_refl _), .inr (Nat.le_refl _)⟩
end Go.Proofs.Ytpnmcimjolmnoaa
