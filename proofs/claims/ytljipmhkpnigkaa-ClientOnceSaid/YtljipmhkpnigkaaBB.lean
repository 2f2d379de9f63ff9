/- Package buckets: the contracts. -/
import Derived.Test.YtljipmhkpnigkaaDB
import Derived.Test.YtljipmhkpnigkaaBP
namespace Go.Proofs.Ytljipmhkpnigkaa
open Go.Vc Go.Codec

theorem none_ca (b : Nat) (x : Bk) (w : World) (hx : x.ok) (hB : Blk w b 151 x.cells) :
    Ca Try.prog 105 #[.pointer (some ⟨b, 0, none⟩)] w fun e w' => e = .returned (.bool false) ∧ w' = w := by
  refine bnone_ok _ _ _ ?_
  have h1 : ¬ (x.r = 0) := by have := hx.2.2.1; omega
  refine ⟨x.r, hB.at_ rfl, ?_, rfl⟩
  simp [h1]
theorem none_nil (w : World) : Ca Try.prog 105 #[.pointer none] w fun e w' => e = .returned (.bool true) ∧ w' = w :=
  bnone_ok _ _ _ ⟨rfl, rfl⟩
theorem none_zero (b : Nat) (cs : Array Value) (w : World) (hB : Blk w b 151 cs) (h : cs[1]? = some (.int .i64 0)) :
    Ca Try.prog 105 #[.pointer (some ⟨b, 0, none⟩)] w fun e w' => e = .returned (.bool true) ∧ w' = w :=
  bnone_ok _ _ _ ⟨0, hB.at_ h, rfl, rfl⟩

theorem at_ca (b : Nat) (x : Bk) (now : Int) (w : World) (hx : x.ok) (hB : Blk w b 151 x.cells) :
    Ca Try.prog 106 #[.pointer (some ⟨b, 0, none⟩), .int .i64 now] w fun e w' => e = .returned (.tuple #[]) ∧ Blk w' b 151 (x.go now).cells ∧ Kp (One b) w w' := by
  have hx' := hx
  obtain ⟨o1, o2, o3, o4, o5, o6, o7, o8, o9⟩ := hx'
  have ht := tick_le x.n now o9
  have hd := div_le (tick x.n now - x.s) x.r (by omega) o3
  refine bat_ok _ _ _ _ ⟨x.n, hB.at_ rfl, ?_⟩
  refine LetI.eq rfl (LetI.eq rfl ⟨hB.wr (i := 4) rfl, ?_⟩)
  refine LetW.blk (cs' := Bk.cells ⟨x.c, x.r, x.l, x.s, tick x.n now⟩) hB rfl fun w6 hB6 hk6 => ?_
  refine ⟨tick x.n now, hB6.at_ rfl, x.s, hB6.at_ rfl, LetI.id (by omega) (by omega) ⟨x.r, hB6.at_ rfl, by omega, ?_⟩⟩
  refine LetI.quo (by omega) o3 (by omega) ⟨x.l, hB6.at_ rfl, LetI.id (by omega) (by omega) ⟨x.c, hB6.at_ rfl, ?_⟩⟩
  refine Br.intro (fun hc => ?_) (fun hc => ?_)
  · have hc : x.c ≤ x.l + (tick x.n now - x.s) / x.r := by simpa using hc
    refine ⟨x.c, hB6.at_ rfl, tick x.n now, hB6.at_ rfl, hB6.wr (i := 2) rfl, ?_⟩
    refine LetW.blk (cs' := Bk.cells ⟨x.c, x.r, x.c, x.s, tick x.n now⟩) hB6 rfl fun w7 hB7 hk7 => ⟨hB7.wr (i := 3) rfl, ?_⟩
    refine LetW.blk (cs' := Bk.cells ⟨x.c, x.r, x.c, tick x.n now, tick x.n now⟩) hB7 rfl fun w8 hB8 hk8 => ⟨rfl, ?_, (hk6.trans hk7).trans hk8⟩
    have : x.go now = ⟨x.c, x.r, x.c, tick x.n now, tick x.n now⟩ := if_pos hc
    rw [this]; exact hB8
  · have hc : ¬ x.c ≤ x.l + (tick x.n now - x.s) / x.r := by simpa using hc
    have hm := Int.mul_nonneg hd.1 (show 0 ≤ x.r by omega)
    refine ⟨x.l, hB6.at_ rfl, LetI.id (by omega) (by omega) ⟨hB6.wr (i := 2) rfl, ?_⟩⟩
    refine LetW.blk (cs' := Bk.cells ⟨x.c, x.r, x.l + (tick x.n now - x.s) / x.r, x.s, tick x.n now⟩) hB6 rfl fun w7 hB7 hk7 => ⟨x.s, hB7.at_ rfl, x.r, hB7.at_ rfl, ?_⟩
    refine LetI.id (by omega) (by omega) (LetI.id (by omega) (by omega) ⟨hB7.wr (i := 3) rfl, ?_⟩)
    refine LetW.blk (cs' := Bk.cells ⟨x.c, x.r, x.l + (tick x.n now - x.s) / x.r, x.s + (tick x.n now - x.s) / x.r * x.r, tick x.n now⟩) hB7 rfl fun w8 hB8 hk8 => ⟨rfl, ?_, (hk6.trans hk7).trans hk8⟩
    have : x.go now = ⟨x.c, x.r, x.l + (tick x.n now - x.s) / x.r, x.s + (tick x.n now - x.s) / x.r * x.r, tick x.n now⟩ := if_neg hc
    rw [this]; exact hB8

theorem left_ca (b : Nat) (x : Bk) (now : Int) (w : World) (hx : x.ok) (hB : Blk w b 151 x.cells) :
    Ca Try.prog 101 #[.pointer (some ⟨b, 0, none⟩), .int .i64 now] w fun e w' => e = .returned (.int .i64 (x.go now).l) ∧ Blk w' b 151 (x.go now).cells ∧ Kp (One b) w w' := by
  refine bleft_ok _ _ _ _ ((none_ca b x w hx hB).mono ?_)
  rintro e w1 ⟨rfl, rfl⟩
  refine ⟨false, rfl, (at_ca b x now _ hx hB).mono ?_⟩
  rintro e w2 ⟨rfl, hB2, hk2⟩
  exact ⟨rfl, (x.go now).l, hB2.at_ rfl, rfl, hB2, hk2⟩
theorem left_nil (now : Int) (w : World) : Ca Try.prog 101 #[.pointer none, .int .i64 now] w fun e w' => e = .returned (.int .i64 0) ∧ w' = w := by
  refine bleft_ok _ _ _ _ ((none_nil w).mono ?_)
  rintro e w1 ⟨rfl, rfl⟩
  exact ⟨true, rfl, rfl, rfl⟩
theorem left_zero (b : Nat) (cs : Array Value) (now : Int) (w : World) (hB : Blk w b 151 cs) (h : cs[1]? = some (.int .i64 0)) :
    Ca Try.prog 101 #[.pointer (some ⟨b, 0, none⟩), .int .i64 now] w fun e w' => e = .returned (.int .i64 0) ∧ w' = w := by
  refine bleft_ok _ _ _ _ ((none_zero b cs w hB h).mono ?_)
  rintro e w1 ⟨rfl, rfl⟩
  exact ⟨true, rfl, rfl, rfl⟩

theorem take_ca (b : Nat) (x : Bk) (now : Int) (w : World) (hx : x.ok) (hB : Blk w b 151 x.cells) :
    Ca Try.prog 95 #[.pointer (some ⟨b, 0, none⟩), .int .i64 now] w fun e w' => e = .returned (.bool (x.take now).1) ∧ Blk w' b 151 (x.take now).2.cells ∧ Kp (One b) w w' := by
  refine btake_ok _ _ _ _ ((left_ca b x now w hx hB).mono ?_)
  rintro e w1 ⟨rfl, hB1, hk1⟩
  have hok := Bk.go_ok hx now
  obtain ⟨o1, o2, o3, o4, o5, o6, o7, o8, o9⟩ := hok
  refine ⟨_, rfl, Br.intro (fun hc => ?_) (fun hc => ?_)⟩
  · have hc : (x.go now).l = 0 := by simpa using hc
    have : x.take now = (false, x.go now) := if_pos hc
    rw [this]; exact ⟨rfl, hB1, hk1⟩
  · have hc : ¬ (x.go now).l = 0 := by simpa using hc
    refine ⟨(x.go now).l, hB1.at_ rfl, LetI.id (by omega) (by omega) ⟨hB1.wr (i := 2) rfl, ?_⟩⟩
    refine LetW.blk (cs' := Bk.cells ⟨(x.go now).c, (x.go now).r, (x.go now).l - 1, (x.go now).s, (x.go now).n⟩) hB1 rfl fun w2 hB2 hk2 => ?_
    have : x.take now = (true, ⟨(x.go now).c, (x.go now).r, (x.go now).l - 1, (x.go now).s, (x.go now).n⟩) := if_neg hc
    rw [this]; exact ⟨rfl, hB2, hk1.trans hk2⟩
theorem take_nil (now : Int) (w : World) : Ca Try.prog 95 #[.pointer none, .int .i64 now] w fun e w' => e = .returned (.bool false) ∧ w' = w := by
  refine btake_ok _ _ _ _ ((left_nil now w).mono ?_)
  rintro e w1 ⟨rfl, rfl⟩
  exact ⟨0, rfl, rfl, rfl⟩
theorem take_zero (b : Nat) (cs : Array Value) (now : Int) (w : World) (hB : Blk w b 151 cs) (h : cs[1]? = some (.int .i64 0)) :
    Ca Try.prog 95 #[.pointer (some ⟨b, 0, none⟩), .int .i64 now] w fun e w' => e = .returned (.bool false) ∧ w' = w := by
  refine btake_ok _ _ _ _ ((left_zero b cs now w hB h).mono ?_)
  rintro e w1 ⟨rfl, rfl⟩
  exact ⟨0, rfl, rfl, rfl⟩

theorem new_bad (c r : Int) (w : World) (h : ¬ okArgs c r) : Ca Try.prog 82 #[.int .i64 c, .int .i64 r] w fun e w' => e = .returned (.tuple #[.pointer none, .int .i64 2]) ∧ w' = w := by
  unfold okArgs at h
  refine bnew_ok _ _ _ _ (Br.intro (fun _ => ⟨rfl, rfl⟩) fun h1 => Br.intro (fun _ => ⟨rfl, rfl⟩) fun h2 => Br.intro (fun _ => ⟨rfl, rfl⟩) fun h3 => Br.intro (fun _ => ⟨rfl, rfl⟩) fun h4 => ?_)
  simp at h1 h2 h3 h4
  omega
theorem new_good (c r : Int) (w : World) (h : okArgs c r) : Ca Try.prog 82 #[.int .i64 c, .int .i64 r] w fun e w' => ∃ b, e = .returned (.tuple #[.pointer (some ⟨b, 0, none⟩), .int .i64 0]) ∧ w.heap.size ≤ b ∧ Blk w' b 151 (newBk c r).cells ∧ Kp No w w' := by
  unfold okArgs at h
  refine bnew_ok _ _ _ _ (Br.neg (by simp; omega) (Br.neg (by simp; omega) (Br.neg (by simp; omega) (Br.neg (by simp; omega) ?_))))
  exact LetA.blk fun b w' hb hB hk => ⟨b, rfl, by omega, hB, hk⟩
end Go.Proofs.Ytljipmhkpnigkaa
