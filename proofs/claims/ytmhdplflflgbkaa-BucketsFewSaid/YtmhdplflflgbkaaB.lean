/- The contracts of package buckets and of its reference. -/
import Derived.Test.YtmhdplflflgbkaaD
import Derived.Test.YtmhdplflflgbkaaA
namespace Go.Proofs.Ytmhdplflflgbkaa
open Go.Vc

theorem none_ca (b : Nat) (x : Bk) (w : World) (hx : x.ok) (hB : Blk w b 41 x.cells) :
    Ca Try.prog 14 #[.pointer (some ⟨b, 0, none⟩)] w fun e w' => e = .returned (.bool false) ∧ w' = w := by
  refine none__ok _ _ _ ?_
  have h1 : ¬ (x.r = 0) := by have := hx.2.2.1; omega
  refine ⟨x.r, hB.at_ rfl, ?_, rfl⟩
  simp [h1]
theorem none_nil (w : World) : Ca Try.prog 14 #[.pointer none] w fun e w' => e = .returned (.bool true) ∧ w' = w :=
  none__ok _ _ _ ⟨rfl, rfl⟩
theorem none_zero (b : Nat) (cs : Array Value) (w : World) (hB : Blk w b 41 cs) (h : cs[1]? = some (.int .i64 0)) :
    Ca Try.prog 14 #[.pointer (some ⟨b, 0, none⟩)] w fun e w' => e = .returned (.bool true) ∧ w' = w :=
  none__ok _ _ _ ⟨0, hB.at_ h, rfl, rfl⟩

theorem at_ca (b : Nat) (x : Bk) (now : Int) (w : World) (hx : x.ok) (hB : Blk w b 41 x.cells) :
    Ca Try.prog 15 #[.pointer (some ⟨b, 0, none⟩), .int .i64 now] w fun e w' => e = .returned (.tuple #[]) ∧ Blk w' b 41 (x.go now).cells ∧ Kp (One b) w w' := by
  have hx' := hx
  obtain ⟨o1, o2, o3, o4, o5, o6, o7, o8, o9⟩ := hx'
  have ht := tick_le x.n now o9
  have hd := div_le (tick x.n now - x.s) x.r (by omega) o3
  refine at__ok _ _ _ _ ⟨x.n, hB.at_ rfl, ?_⟩
  refine LetI.eq rfl (LetI.eq rfl ⟨hB.wr (i := 4) rfl, ?_⟩)
  refine LetW.blk (cs' := Bk.cells ⟨x.c, x.r, x.l, x.s, tick x.n now⟩) hB rfl fun w6 hB6 hk6 => ?_
  refine ⟨tick x.n now, hB6.at_ rfl, x.s, hB6.at_ rfl, LetI.id (by omega) (by omega) ⟨x.r, hB6.at_ rfl, by omega, ?_⟩⟩
  refine LetI.quo (by omega) o3 (by omega) ⟨x.l, hB6.at_ rfl, LetI.id (by omega) (by omega) ⟨x.c, hB6.at_ rfl, ?_⟩⟩
  refine Br.intro (fun hc => ?_) (fun hc => ?_)
  · have hc : x.c ≤ x.l + (tick x.n now - x.s) / x.r := by simpa using hc
    refine ⟨x.c, hB6.at_ rfl, tick x.n now, hB6.at_ rfl, hB6.wr (i := 2) rfl, ?_⟩
    refine LetW.blk (cs' := Bk.cells ⟨x.c, x.r, x.c, x.s, tick x.n now⟩) hB6 rfl fun w7 hB7 hk7 => ⟨hB7.wr (i := 3) rfl, ?_⟩
    refine LetW.blk (cs' := Bk.cells ⟨x.c, x.r, x.c, tick x.n now, tick x.n now⟩) hB7 rfl fun w8 hB8 hk8 => ⟨rfl, ?_, (hk6.trans hk7).trans hk8⟩
    have : x.go now = ⟨x.c, x.r, x.c, tick x.n now, tick x.n now⟩ := if_pos hc
    rw [this]; exact hB8
  · have hc : ¬ x.c ≤ x.l + (tick x.n now - x.s) / x.r := by simpa using hc
    have hm := Int.mul_nonneg hd.1 (show 0 ≤ x.r by omega)
    refine ⟨x.l, hB6.at_ rfl, LetI.id (by omega) (by omega) ⟨hB6.wr (i := 2) rfl, ?_⟩⟩
    refine LetW.blk (cs' := Bk.cells ⟨x.c, x.r, x.l + (tick x.n now - x.s) / x.r, x.s, tick x.n now⟩) hB6 rfl fun w7 hB7 hk7 => ⟨x.s, hB7.at_ rfl, x.r, hB7.at_ rfl, ?_⟩
    refine LetI.id (by omega) (by omega) (LetI.id (by omega) (by omega) ⟨hB7.wr (i := 3) rfl, ?_⟩)
    refine LetW.blk (cs' := Bk.cells ⟨x.c, x.r, x.l + (tick x.n now - x.s) / x.r, x.s + (tick x.n now - x.s) / x.r * x.r, tick x.n now⟩) hB7 rfl fun w8 hB8 hk8 => ⟨rfl, ?_, (hk6.trans hk7).trans hk8⟩
    have : x.go now = ⟨x.c, x.r, x.l + (tick x.n now - x.s) / x.r, x.s + (tick x.n now - x.s) / x.r * x.r, tick x.n now⟩ := if_neg hc
    rw [this]; exact hB8

theorem left_ca (b : Nat) (x : Bk) (now : Int) (w : World) (hx : x.ok) (hB : Blk w b 41 x.cells) :
    Ca Try.prog 8 #[.pointer (some ⟨b, 0, none⟩), .int .i64 now] w fun e w' => e = .returned (.int .i64 (x.go now).l) ∧ Blk w' b 41 (x.go now).cells ∧ Kp (One b) w w' := by
  refine left_ok _ _ _ _ ((none_ca b x w hx hB).mono ?_)
  rintro e w1 ⟨rfl, rfl⟩
  refine ⟨false, rfl, (at_ca b x now _ hx hB).mono ?_⟩
  rintro e w2 ⟨rfl, hB2, hk2⟩
  exact ⟨rfl, (x.go now).l, hB2.at_ rfl, rfl, hB2, hk2⟩
theorem left_nil (now : Int) (w : World) : Ca Try.prog 8 #[.pointer none, .int .i64 now] w fun e w' => e = .returned (.int .i64 0) ∧ w' = w := by
  refine left_ok _ _ _ _ ((none_nil w).mono ?_)
  rintro e w1 ⟨rfl, rfl⟩
  exact ⟨true, rfl, rfl, rfl⟩
theorem left_zero (b : Nat) (cs : Array Value) (now : Int) (w : World) (hB : Blk w b 41 cs) (h : cs[1]? = some (.int .i64 0)) :
    Ca Try.prog 8 #[.pointer (some ⟨b, 0, none⟩), .int .i64 now] w fun e w' => e = .returned (.int .i64 0) ∧ w' = w := by
  refine left_ok _ _ _ _ ((none_zero b cs w hB h).mono ?_)
  rintro e w1 ⟨rfl, rfl⟩
  exact ⟨true, rfl, rfl, rfl⟩

theorem take_ca (b : Nat) (x : Bk) (now : Int) (w : World) (hx : x.ok) (hB : Blk w b 41 x.cells) :
    Ca Try.prog 9 #[.pointer (some ⟨b, 0, none⟩), .int .i64 now] w fun e w' => e = .returned (.bool (x.take now).1) ∧ Blk w' b 41 (x.take now).2.cells ∧ Kp (One b) w w' := by
  refine take_ok _ _ _ _ ((left_ca b x now w hx hB).mono ?_)
  rintro e w1 ⟨rfl, hB1, hk1⟩
  have hok := Bk.go_ok hx now
  obtain ⟨o1, o2, o3, o4, o5, o6, o7, o8, o9⟩ := hok
  refine ⟨_, rfl, Br.intro (fun hc => ?_) (fun hc => ?_)⟩
  · have hc : (x.go now).l = 0 := by simpa using hc
    have : x.take now = (false, x.go now) := if_pos hc
    rw [this]; exact ⟨rfl, hB1, hk1⟩
  · have hc : ¬ (x.go now).l = 0 := by simpa using hc
    refine ⟨(x.go now).l, hB1.at_ rfl, LetI.id (by omega) (by omega) ⟨hB1.wr (i := 2) rfl, ?_⟩⟩
    refine LetW.blk (cs' := Bk.cells ⟨(x.go now).c, (x.go now).r, (x.go now).l - 1, (x.go now).s, (x.go now).n⟩) hB1 rfl fun w2 hB2 hk2 => ?_
    have : x.take now = (true, ⟨(x.go now).c, (x.go now).r, (x.go now).l - 1, (x.go now).s, (x.go now).n⟩) := if_neg hc
    rw [this]; exact ⟨rfl, hB2, hk1.trans hk2⟩
theorem take_nil (now : Int) (w : World) : Ca Try.prog 9 #[.pointer none, .int .i64 now] w fun e w' => e = .returned (.bool false) ∧ w' = w := by
  refine take_ok _ _ _ _ ((left_nil now w).mono ?_)
  rintro e w1 ⟨rfl, rfl⟩
  exact ⟨0, rfl, rfl, rfl⟩
theorem take_zero (b : Nat) (cs : Array Value) (now : Int) (w : World) (hB : Blk w b 41 cs) (h : cs[1]? = some (.int .i64 0)) :
    Ca Try.prog 9 #[.pointer (some ⟨b, 0, none⟩), .int .i64 now] w fun e w' => e = .returned (.bool false) ∧ w' = w := by
  refine take_ok _ _ _ _ ((left_zero b cs now w hB h).mono ?_)
  rintro e w1 ⟨rfl, rfl⟩
  exact ⟨0, rfl, rfl, rfl⟩

theorem copy_ca (b : Nat) (x : Bk) (w : World) (hx : x.ok) (hB : Blk w b 41 x.cells) :
    Ca Try.prog 12 #[.pointer (some ⟨b, 0, none⟩)] w fun e w' => ∃ c, e = .returned (.pointer (some ⟨c, 0, none⟩)) ∧ w.heap.size ≤ c ∧ Blk w' c 41 x.cells ∧ Kp No w w' := by
  refine copy__ok _ _ _ ((none_ca b x w hx hB).mono ?_)
  rintro e w1 ⟨rfl, rfl⟩
  refine ⟨false, rfl, x.c, x.r, x.l, x.s, x.n, Row.whole hB, LetA.blk fun c w2 hc hB2 hk2 => ?_⟩
  refine ⟨WrRow.blk hB2 (by simp [notAgg]) (by simp), ?_⟩
  refine LetW.row (cs' := x.cells) hB2 rfl fun w3 hB3 hk3 => ⟨c, rfl, by omega, hB3, hk2.step hk3 ?_⟩
  rintro i rfl
  exact .inr (by omega)
theorem copy_nil (w : World) : Ca Try.prog 12 #[.pointer none] w fun e w' => e = .returned (.pointer none) ∧ w' = w := by
  refine copy__ok _ _ _ ((none_nil w).mono ?_)
  rintro e w1 ⟨rfl, rfl⟩
  exact ⟨true, rfl, rfl, rfl⟩
theorem copy_zero (b : Nat) (cs : Array Value) (w : World) (hB : Blk w b 41 cs) (h : cs[1]? = some (.int .i64 0)) :
    Ca Try.prog 12 #[.pointer (some ⟨b, 0, none⟩)] w fun e w' => e = .returned (.pointer none) ∧ w' = w := by
  refine copy__ok _ _ _ ((none_zero b cs w hB h).mono ?_)
  rintro e w1 ⟨rfl, rfl⟩
  exact ⟨true, rfl, rfl, rfl⟩

def okArgs (c r : Int) : Prop := 0 ≤ c ∧ c ≤ 16 ∧ 1 ≤ r ∧ r ≤ 1099511627776
instance (c r : Int) : Decidable (okArgs c r) := by unfold okArgs; infer_instance
instance (x : Bk) : Decidable x.ok := by unfold Bk.ok; infer_instance
def newBk (c r : Int) : Bk := ⟨c, r, c, 0, 0⟩
theorem newBk_ok {c r : Int} (h : okArgs c r) : (newBk c r).ok := by unfold okArgs at h; unfold Bk.ok newBk; dsimp only; omega

theorem new_bad (c r : Int) (w : World) (h : ¬ okArgs c r) : Ca Try.prog 7 #[.int .i64 c, .int .i64 r] w fun e w' => e = .returned (.tuple #[.pointer none, .int .i64 2]) ∧ w' = w := by
  unfold okArgs at h
  refine new_ok _ _ _ _ (Br.intro (fun _ => ⟨rfl, rfl⟩) fun h1 => Br.intro (fun _ => ⟨rfl, rfl⟩) fun h2 => Br.intro (fun _ => ⟨rfl, rfl⟩) fun h3 => Br.intro (fun _ => ⟨rfl, rfl⟩) fun h4 => ?_)
  simp at h1 h2 h3 h4
  omega
theorem new_good (c r : Int) (w : World) (h : okArgs c r) : Ca Try.prog 7 #[.int .i64 c, .int .i64 r] w fun e w' => ∃ b, e = .returned (.tuple #[.pointer (some ⟨b, 0, none⟩), .int .i64 0]) ∧ w.heap.size ≤ b ∧ Blk w' b 41 (newBk c r).cells ∧ Kp No w w' := by
  unfold okArgs at h
  refine new_ok _ _ _ _ (Br.neg (by simp; omega) (Br.neg (by simp; omega) (Br.neg (by simp; omega) (Br.neg (by simp; omega) ?_))))
  exact LetA.blk fun b w' hb hB hk => ⟨b, rfl, by omega, hB, hk⟩
theorem rnew_bad (c r : Int) (w : World) (h : ¬ okArgs c r) : Ca Try.prog 10 #[.int .i64 c, .int .i64 r] w fun e w' => e = .returned (.tuple #[.pointer none, .int .i64 2]) ∧ w' = w := by
  unfold okArgs at h
  refine rnew_ok _ _ _ _ (Br.intro (fun _ => ⟨rfl, rfl⟩) fun h1 => Br.intro (fun _ => ⟨rfl, rfl⟩) fun h2 => Br.intro (fun _ => ⟨rfl, rfl⟩) fun h3 => Br.intro (fun _ => ⟨rfl, rfl⟩) fun h4 => ?_)
  simp at h1 h2 h3 h4
  omega
theorem rnew_good (c r : Int) (w : World) (h : okArgs c r) : Ca Try.prog 10 #[.int .i64 c, .int .i64 r] w fun e w' => ∃ b, e = .returned (.tuple #[.pointer (some ⟨b, 0, none⟩), .int .i64 0]) ∧ w.heap.size ≤ b ∧ Blk w' b 44 (newBk c r).cells ∧ Kp No w w' := by
  unfold okArgs at h
  refine rnew_ok _ _ _ _ (Br.neg (by simp; omega) (Br.neg (by simp; omega) (Br.neg (by simp; omega) (Br.neg (by simp; omega) ?_))))
  exact LetA.blk fun b w' hb hB hk => ⟨b, rfl, by omega, hB, hk⟩

theorem bring_ca (b : Nat) (x : Bk) (now : Int) (w : World) (hx : x.ok) (hB : Blk w b 44 x.cells) :
    Ca Try.prog 16 #[.pointer (some ⟨b, 0, none⟩), .int .i64 now] w fun e w' => e = .returned (.tuple #[]) ∧ Blk w' b 44 (x.go now).cells ∧ Kp (One b) w w' := by
  have hx' := hx
  obtain ⟨o1, o2, o3, o4, o5, o6, o7, o8, o9⟩ := hx'
  have ht := tick_le x.n now o9
  refine bring_ok _ _ _ _ ⟨fun vs w' => vs = [.int .i64 (min now 1099511627776)] ∧ w' = w, ?_, ?_⟩
  · refine Br.intro (fun h => ⟨?_, rfl⟩) (fun h => ⟨?_, rfl⟩)
    · simp at h; congr 2; omega
    · simp at h; congr 2; omega
  rintro n4 w5 ⟨hn, rfl⟩
  obtain rfl : n4 = min now 1099511627776 := by simpa using hn
  refine ⟨fun vs w' => vs = [] ∧ Blk w' b 44 (Bk.cells ⟨x.c, x.r, x.l, x.s, tick x.n now⟩) ∧ Kp (One b) w5 w', ⟨x.n, hB.at_ rfl, Br.intro (fun h => ?_) (fun h => ?_)⟩, ?_⟩
  · simp only [gt_iff_lt, decide_eq_true_eq] at h
    refine ⟨hB.wr (i := 4) rfl, LetW.blk (cs' := Bk.cells ⟨x.c, x.r, x.l, x.s, tick x.n now⟩) hB ?_ fun w6 hB6 hk6 => ⟨rfl, hB6, hk6⟩⟩
    have : min now 1099511627776 = tick x.n now := by unfold tick; omega
    rw [this]; rfl
  · simp only [gt_iff_lt, decide_eq_false_iff_not] at h
    have : tick x.n now = x.n := by unfold tick; omega
    rw [this]; exact ⟨rfl, hB, Kp.refl _ _⟩
  rintro w9 ⟨_, hB9, hk9⟩
  have h0 : Bk.ok ⟨x.c, x.r, x.l, x.s, tick x.n now⟩ := ⟨o1, o2, o3, o4, o5, o6, o7, by dsimp only; omega, ht.2⟩
  refine ⟨fun k vs w' => vs = [] ∧ ∃ y : Bk, y.ok ∧ Blk w' b 44 y.cells ∧ y.n = tick x.n now ∧ y.bring (tick x.n now) = x.go now ∧ (y.c - y.l).toNat = k ∧ Kp (One b) w5 w',
    ⟨_, rfl, _, h0, hB9, rfl, rfl, rfl, hk9⟩, ?_⟩
  rintro k w13 ⟨_, y, hy, hBy, hyn, hyb, hyk, hky⟩
  have hy' := hy
  obtain ⟨q1, q2, q3, q4, q5, q6, q7, q8, q9⟩ := hy'
  have full : y.l = y.c → ∃ n30 : Int, w13.cell? ⟨b, 4, none⟩ = some (.int .i64 n30) ∧ Wr w13 ⟨b, 3, none⟩ ∧
      LetW (w13.setCell ⟨b, 3, none⟩ (.int .i64 n30)) fun w31 => Ending.returned (.tuple #[]) = Ending.returned (.tuple #[]) ∧ Blk w31 b 44 (x.go now).cells ∧ Kp (One b) w5 w31 := by
    intro hl
    refine ⟨y.n, hBy.at_ rfl, hBy.wr (i := 3) rfl, LetW.blk (cs' := Bk.cells ⟨y.c, y.r, y.l, y.n, y.n⟩) hBy rfl fun w31 hB31 hk31 => ⟨rfl, ?_, hky.trans hk31⟩⟩
    rw [← hyb, Bk.bring_full hy _ (by omega) hl, ← hyn]
    rw [hl] at hB31
    exact hB31
  refine ⟨y.l, hBy.at_ rfl, y.c, hBy.at_ rfl, Br.intro (fun h1 => ?_) (fun h1 => ?_)⟩
  · have h1 : y.l < y.c := by simpa using h1
    refine ⟨y.s, hBy.at_ rfl, y.r, hBy.at_ rfl, LetI.id (by omega) (by omega) ⟨y.n, hBy.at_ rfl, Br.intro (fun h2 => ?_) (fun h2 => ?_)⟩⟩
    · have h2 : y.s + y.r ≤ y.n := by simpa using h2
      refine ⟨y.l, hBy.at_ rfl, LetI.id (by omega) (by omega) ⟨y.s, hBy.at_ rfl, y.r, hBy.at_ rfl, LetI.id (by omega) (by omega) ⟨hBy.wr (i := 2) rfl, ?_⟩⟩⟩
      refine LetW.blk (cs' := Bk.cells ⟨y.c, y.r, y.l + 1, y.s, y.n⟩) hBy rfl fun w25 hB25 hk25 => ⟨hB25.wr (i := 3) rfl, ?_⟩
      refine LetW.blk (cs' := Bk.cells ⟨y.c, y.r, y.l + 1, y.s + y.r, y.n⟩) hB25 rfl fun w26 hB26 hk26 => ?_
      refine ⟨_, ?_, rfl, _, ?_, hB26, hyn, ?_, rfl, (hky.trans hk25).trans hk26⟩
      · dsimp only; omega
      · exact ⟨q1, q2, q3, q4, by dsimp only; omega, by dsimp only; omega, by dsimp only; omega, by dsimp only; omega, q9⟩
      · rw [Bk.bring_step hy]; exact hyb
    · have h2 : ¬ y.s + y.r ≤ y.n := by simpa using h2
      refine ⟨y.l, hBy.at_ rfl, y.c, hBy.at_ rfl, Br.intro (fun h3 => ?_) (fun _ => ?_)⟩
      · simp at h3; omega
      · refine ⟨rfl, ?_, hky⟩
        rw [← hyb, Bk.bring_stop hy _ (by omega) h1 (by omega), ← hyn]; exact hBy
  · have h1 : ¬ y.l < y.c := by simpa using h1
    refine ⟨y.l, hBy.at_ rfl, y.c, hBy.at_ rfl, Br.intro (fun h3 => ?_) (fun h3 => ?_)⟩
    · exact full (by omega)
    · simp at h3; omega

theorem rleft_ca (b : Nat) (x : Bk) (now : Int) (w : World) (hx : x.ok) (hB : Blk w b 44 x.cells) :
    Ca Try.prog 11 #[.pointer (some ⟨b, 0, none⟩), .int .i64 now] w fun e w' => e = .returned (.int .i64 (x.go now).l) ∧ Blk w' b 44 (x.go now).cells ∧ Kp (One b) w w' := by
  refine rleft_ok _ _ _ _ ((bring_ca b x now w hx hB).mono ?_)
  rintro e w1 ⟨rfl, hB1, hk1⟩
  exact ⟨rfl, (x.go now).l, hB1.at_ rfl, rfl, hB1, hk1⟩
theorem rtake_ca (b : Nat) (x : Bk) (now : Int) (w : World) (hx : x.ok) (hB : Blk w b 44 x.cells) :
    Ca Try.prog 13 #[.pointer (some ⟨b, 0, none⟩), .int .i64 now] w fun e w' => e = .returned (.bool (x.take now).1) ∧ Blk w' b 44 (x.take now).2.cells ∧ Kp (One b) w w' := by
  refine rtake_ok _ _ _ _ ((bring_ca b x now w hx hB).mono ?_)
  rintro e w1 ⟨rfl, hB1, hk1⟩
  have hok := Bk.go_ok hx now
  obtain ⟨o1, o2, o3, o4, o5, o6, o7, o8, o9⟩ := hok
  refine ⟨rfl, (x.go now).l, hB1.at_ rfl, Br.intro (fun hc => ?_) (fun hc => ?_)⟩
  · have hc : (x.go now).l = 0 := by simpa using hc
    have : x.take now = (false, x.go now) := if_pos hc
    rw [this]; exact ⟨rfl, hB1, hk1⟩
  · have hc : ¬ (x.go now).l = 0 := by simpa using hc
    refine ⟨(x.go now).l, hB1.at_ rfl, LetI.id (by omega) (by omega) ⟨hB1.wr (i := 2) rfl, ?_⟩⟩
    refine LetW.blk (cs' := Bk.cells ⟨(x.go now).c, (x.go now).r, (x.go now).l - 1, (x.go now).s, (x.go now).n⟩) hB1 rfl fun w2 hB2 hk2 => ?_
    have : x.take now = (true, ⟨(x.go now).c, (x.go now).r, (x.go now).l - 1, (x.go now).s, (x.go now).n⟩) := if_neg hc
    rw [this]; exact ⟨rfl, hB2, hk1.trans hk2⟩

theorem filled_ca (w : World) : Ca Try.prog 6 #[] w fun e w' => e = .returned (.bool true) ∧ Kp No w w' := by
  refine filled_ok _ _ ((new_good 2 10 w (by decide)).mono ?_)
  rintro e w1 ⟨b, rfl, hb, hB1, hk1⟩
  refine ⟨_, _, rfl, Br.pos (by decide) ((take_ca b _ 0 w1 (by decide) hB1).mono ?_)⟩
  rintro e w2 ⟨rfl, hB2, hk2⟩
  refine ⟨_, rfl, Br.pos (by decide) ((take_ca b _ 0 w2 (by decide) hB2).mono ?_)⟩
  rintro e w3 ⟨rfl, hB3, hk3⟩
  refine ⟨_, rfl, Br.pos (by decide) ((take_ca b _ 0 w3 (by decide) hB3).mono ?_)⟩
  rintro e w4 ⟨rfl, hB4, hk4⟩
  refine ⟨_, rfl, Br.pos (by decide) ((left_ca b _ 9 w4 (by decide) hB4).mono ?_)⟩
  rintro e w5 ⟨rfl, hB5, hk5⟩
  refine ⟨_, rfl, Br.pos (by decide) ((left_ca b _ 10 w5 (by decide) hB5).mono ?_)⟩
  rintro e w6 ⟨rfl, hB6, hk6⟩
  refine ⟨_, rfl, Br.pos (by decide) ((take_ca b _ 15 w6 (by decide) hB6).mono ?_)⟩
  rintro e w7 ⟨rfl, hB7, hk7⟩
  refine ⟨_, rfl, Br.pos (by decide) ((left_ca b _ 19 w7 (by decide) hB7).mono ?_)⟩
  rintro e w8 ⟨rfl, hB8, hk8⟩
  refine ⟨_, rfl, Br.pos (by decide) ((left_ca b _ 20 w8 (by decide) hB8).mono ?_)⟩
  rintro e w9 ⟨rfl, hB9, hk9⟩
  refine ⟨_, rfl, Br.pos (by decide) ((left_ca b _ 3 w9 (by decide) hB9).mono ?_)⟩
  rintro e w10 ⟨rfl, hB10, hk10⟩
  refine ⟨_, rfl, Br.pos (by decide) ((left_ca b _ 30 w10 (by decide) hB10).mono ?_)⟩
  rintro e w11 ⟨rfl, hB11, hk11⟩
  refine ⟨_, rfl, ?_⟩
  refine ⟨by rw [show (_ == (2 : Int)) = true by decide], ?_⟩
  exact hk1.new1 (hk2.trans (hk3.trans (hk4.trans (hk5.trans (hk6.trans (hk7.trans (hk8.trans (hk9.trans (hk10.trans hk11))))))))) hb

end Go.Proofs.Ytmhdplflflgbkaa
