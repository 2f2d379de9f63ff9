/- The laws BucketsNone and BucketsPlay: they return true. -/
import Derived.Test.YtmhdplflflgbkaaB
namespace Go.Proofs.Ytmhdplflflgbkaa
open Go.Vc

theorem lawNone_ca (now : Int) (w : World) : Ca Try.prog 5 #[.int .i64 now] w fun e w' => e = .returned (.bool true) ∧ Kp No w w' := by
  refine lawNone_ok _ _ _ ⟨fun k vs w' => Kp No w w' ∧ ∃ (b : Bool) (p : Option Addr) (n : Int), vs = [.bool b, .pointer p, .int .i64 n] ∧ 0 ≤ n ∧ n ≤ 2 ∧ k = (2 - n).toNat ∧
    (p = none ∨ ∃ c, p = some ⟨c, 0, none⟩ ∧ Blk w' c 41 #[.int .i64 0, .int .i64 0, .int .i64 0, .int .i64 0, .int .i64 0]), ⟨2, Kp.refl _ _, _, _, _, rfl, by omega, by omega, rfl, .inl rfl⟩, ?_⟩
  rintro b4 p5 n6 k7 w8 ⟨hk, b, p, n, hv, h0, h2, rfl, hp⟩
  simp only [List.cons.injEq, Value.bool.injEq, Value.pointer.injEq, Value.int.injEq, true_and, and_true] at hv
  obtain ⟨rfl, rfl, rfl⟩ := hv
  have rest : ∀ w16, Kp No w w16 → n6 < 2 → LetA (.cells #[.int .i64 0, .int .i64 0, .int .i64 0, .int .i64 0, .int .i64 0] 41) w16 fun b18 w19 => LetI (IntKind.i64.wrap (n6 + 1)) fun n20 =>
      ∃ k21, k21 < (2 - n6).toNat ∧ (Kp No w w19 ∧ ∃ (b : Bool) (p : Option Addr) (n : Int), [Value.bool b4, .pointer (some ⟨b18, 0, none⟩), .int .i64 n20] = [.bool b, .pointer p, .int .i64 n] ∧ 0 ≤ n ∧ n ≤ 2 ∧ k21 = (2 - n).toNat ∧
        (p = none ∨ ∃ c, p = some ⟨c, 0, none⟩ ∧ Blk w19 c 41 #[.int .i64 0, .int .i64 0, .int .i64 0, .int .i64 0, .int .i64 0])) := by
    intro w16 hk hn
    refine LetA.blk fun b18 w19 _ hB hk2 => LetI.id (by omega) (by omega) ⟨_, ?_, hk.trans hk2, _, _, _, rfl, by omega, by omega, rfl, .inr ⟨b18, rfl, hB⟩⟩
    omega
  refine Br.intro (fun hn => ?_) (fun _ => ?_)
  · have hn : n6 < 2 := by simpa using hn
    rcases hp with rfl | ⟨c, rfl, hB⟩
    · refine (take_nil now w8).mono ?_
      rintro e w10 ⟨rfl, rfl⟩
      refine ⟨false, rfl, (left_nil now _).mono ?_⟩
      rintro e w13 ⟨rfl, rfl⟩
      refine ⟨0, rfl, (copy_nil _).mono ?_⟩
      rintro e w16 ⟨rfl, rfl⟩
      exact ⟨none, rfl, rest _ hk hn⟩
    · refine (take_zero c _ now w8 hB rfl).mono ?_
      rintro e w10 ⟨rfl, rfl⟩
      refine ⟨false, rfl, (left_zero c _ now _ hB rfl).mono ?_⟩
      rintro e w13 ⟨rfl, rfl⟩
      refine ⟨0, rfl, (copy_zero c _ _ hB rfl).mono ?_⟩
      rintro e w16 ⟨rfl, rfl⟩
      exact ⟨none, rfl, rest _ hk hn⟩
  · refine (filled_ca w8).mono ?_
    rintro e w23 ⟨rfl, hk2⟩
    exact ⟨true, rfl, rfl, hk.trans hk2⟩

/-- what the acts are, in memory -/
def Acts (w : World) (p : Option Addr) (n : Nat) : Prop := ∀ i : Nat, i < n → ∃ (a : Addr) (kd nw : Int), p = some a ∧ a.block < w.heap.size ∧ Row w (a.add (i * 2)) 0 [.int .u8 kd, .int .i64 nw]
theorem block_add (a : Addr) (n : Nat) : (a.add n).block = a.block := by unfold Addr.add; split <;> rfl

theorem lawPlay_ca (c r : Int) (p : Option Addr) (n m : Nat) (w : World) (hl : Acts w p n) :
    Ca Try.prog 4 #[.int .i64 c, .int .i64 r, .slice p n m] w fun e w' => e = .returned (.bool true) ∧ Kp No w w' := by
  have fin : ∀ w7, Kp No w w7 → Ca Try.prog 6 #[] w7 fun e w' => ∃ b, e = .returned (.bool b) ∧ (Ending.returned (.bool b) = .returned (.bool true) ∧ Kp No w w') := by
    intro w7 hk
    refine (filled_ca w7).mono ?_
    rintro e w8 ⟨rfl, hk2⟩
    exact ⟨true, rfl, rfl, hk.trans hk2⟩
  refine lawPlay_ok _ _ _ _ _ _ _ (Br.intro (fun _ => fin w (Kp.refl _ _)) fun hn => ?_)
  by_cases ho : okArgs c r
  case neg =>
    refine (new_bad c r w ho).mono ?_
    rintro e w10 ⟨rfl, rfl⟩
    refine ⟨_, _, rfl, (rnew_bad c r _ ho).mono ?_⟩
    rintro e w14 ⟨rfl, rfl⟩
    exact ⟨_, _, rfl, fin _ (Kp.refl _ _)⟩
  refine (new_good c r w ho).mono ?_
  rintro e w10 ⟨b, rfl, hb, hB1, hk1⟩
  refine ⟨_, _, rfl, (rnew_good c r w10 ho).mono ?_⟩
  rintro e w14 ⟨g, rfl, hg, hG1, hk2⟩
  have hs1 := hk1.size
  have hbg : b ≠ g := by have := hB1.lt; omega
  refine ⟨_, _, rfl, ?_⟩
  have start := newBk_ok ho
  refine ⟨fun k vs w' => ∃ (x : Bk) (bb : Bool) (i : Nat), vs = [.bool bb, .int .i64 i] ∧ i ≤ n ∧ k = n - i ∧ x.ok ∧ Blk w' b 41 x.cells ∧ Blk w' g 44 x.cells ∧ Kp No w w',
    ⟨n, newBk c r, _, 0, rfl, by omega, rfl, start, hB1.kp hk2 (not_no _), hG1, hk1.trans hk2⟩, ?_⟩
  rintro b25 n26 k27 w28 ⟨x, bb, i, hv, hi, rfl, hx, hB, hG, hk⟩
  simp only [List.cons.injEq, Value.bool.injEq, Value.int.injEq, true_and, and_true] at hv
  obtain ⟨rfl, rfl⟩ := hv
  have hn : n ≤ 150 := by simp at hn; omega
  refine Br.intro (fun hin => ?_) (fun hin => ?_)
  · have hin : i < n := by simpa using hin
    obtain ⟨a, kd, nw, rfl, hab, hrow⟩ := hl i hin
    refine ⟨⟨by omega, by omega⟩, kd, nw, Row.kp hk (not_no _) hrow, LetA.blk fun d w33 hd hD hk33 => ?_⟩
    refine ⟨WrRow.blk hD (by simp [notAgg]) (by simp), LetW.row (cs' := #[.int .u8 kd, .int .i64 nw]) hD rfl fun w34 hD34 hk34 => ?_⟩
    have hsz := hk.size
    have hb28 := hB.lt
    have hg28 := hG.lt
    have hB34 : Blk w34 b 41 x.cells := (hB.kp hk33 (not_no _)).kp hk34 (by rintro rfl; omega)
    have hG34 : Blk w34 g 44 x.cells := (hG.kp hk33 (not_no _)).kp hk34 (by rintro rfl; omega)
    have hdw : w.heap.size ≤ d := by omega
    have hkw : Kp No w w34 := (hk.trans hk33).new1 hk34 hdw
    have hdb : d ≠ b := by omega
    have hdg : d ≠ g := by omega
    have next : ∀ (y : Bk) (w' : World), y.ok → Blk w' b 41 y.cells → Blk w' g 44 y.cells → Kp No w w' → LetI (IntKind.i64.wrap ((i : Int) + 1)) fun n45 => ∃ k46, k46 < n - i ∧
        ∃ (x : Bk) (bb : Bool) (j : Nat), [Value.bool b25, .int .i64 n45] = [.bool bb, .int .i64 j] ∧ j ≤ n ∧ k46 = n - j ∧ x.ok ∧ Blk w' b 41 x.cells ∧ Blk w' g 44 x.cells ∧ Kp No w w' := by
      intro y w' hy hBy hGy hky
      refine LetI.id (by omega) (by omega) ⟨n - (i + 1), by omega, y, b25, i + 1, by simp, by omega, rfl, hy, hBy, hGy, hky⟩
    refine ⟨kd, hD34.at_ rfl, by omega, LetI.eq rfl ?_⟩
    refine Br.intro (fun _ => ?_) (fun _ => Br.intro (fun _ => ?_) (fun _ => ?_))
    · refine ⟨nw, hD34.at_ rfl, nw, hD34.at_ rfl, (left_ca b x nw w34 hx hB34).mono ?_⟩
      rintro e w40 ⟨rfl, hB40, hk40⟩
      refine ⟨_, rfl, (hD34.kp hk40 hdb).at_ rfl, (rleft_ca g x nw w40 hx (hG34.kp hk40 (Ne.symm hbg))).mono ?_⟩
      rintro e w43 ⟨rfl, hG43, hk43⟩
      refine ⟨_, rfl, Br.neg (by simp) (next _ _ (Bk.go_ok hx nw) (hB40.kp hk43 hbg) hG43 ((hkw.new1 hk40 hb).new1 hk43 (by omega)))⟩
    · refine (copy_ca b x w34 hx hB34).mono ?_
      rintro e w48 ⟨f, rfl, hf, hF, hk48⟩
      refine ⟨_, rfl, (take_ca f x 1099511627776 w48 hx hF).mono ?_⟩
      rintro e w51 ⟨rfl, hF51, hk51⟩
      have hb34 := hB34.lt
      have hg34 := hG34.lt
      have hs34 := hkw.size
      exact ⟨_, rfl, next x _ hx ((hB34.kp hk48 (not_no _)).kp hk51 (by rintro rfl; omega)) ((hG34.kp hk48 (not_no _)).kp hk51 (by rintro rfl; omega)) ((hkw.trans hk48).new1 hk51 (by omega))⟩
    · refine ⟨nw, hD34.at_ rfl, nw, hD34.at_ rfl, (take_ca b x nw w34 hx hB34).mono ?_⟩
      rintro e w40 ⟨rfl, hB40, hk40⟩
      refine ⟨_, rfl, (hD34.kp hk40 hdb).at_ rfl, (rtake_ca g x nw w40 hx (hG34.kp hk40 (Ne.symm hbg))).mono ?_⟩
      rintro e w43 ⟨rfl, hG43, hk43⟩
      refine ⟨_, rfl, Br.neg (by simp) (next _ _ (Bk.take_ok hx nw) (hB40.kp hk43 hbg) hG43 ((hkw.new1 hk40 hb).new1 hk43 (by omega)))⟩
  · refine (copy_ca b x w28 hx hB).mono ?_
    rintro e w66 ⟨f, rfl, hf, hF, hk66⟩
    have hb28 := hB.lt
    have hg28 := hG.lt
    have hs28 := hk.size
    refine ⟨_, rfl, (left_ca f x 0 w66 hx hF).mono ?_⟩
    rintro e w69 ⟨rfl, hF69, hk69⟩
    have hB69 : Blk w69 b 41 x.cells := (hB.kp hk66 (not_no _)).kp hk69 (by rintro rfl; omega)
    have hG69 : Blk w69 g 44 x.cells := (hG.kp hk66 (not_no _)).kp hk69 (by rintro rfl; omega)
    have hk69w := (hk.trans hk66).new1 hk69 (by omega)
    refine ⟨_, rfl, (rleft_ca g x 0 w69 hx hG69).mono ?_⟩
    rintro e w72 ⟨rfl, hG72, hk72⟩
    have hB72 : Blk w72 b 41 x.cells := hB69.kp hk72 hbg
    refine ⟨_, rfl, Br.pos (by simp) ((left_ca b x (-1) w72 hx hB72).mono ?_)⟩
    rintro e w75 ⟨rfl, hB75, hk75⟩
    have h1 : x.go (-1) = x.go 0 := by
      have := hx.2.2.2.2.2.2
      unfold Bk.go tick
      rw [show max x.n (min (-1) 1099511627776) = max x.n (min 0 1099511627776) by omega]
    have h2 : (x.go 0).go (-1) = x.go (-1) := by rw [h1]; exact Bk.go_old hx 0 (-1) (by omega)
    refine ⟨_, rfl, (rleft_ca g (x.go 0) (-1) w75 (Bk.go_ok hx 0) (hG72.kp hk75 (Ne.symm hbg))).mono ?_⟩
    rintro e w78 ⟨rfl, hG78, hk78⟩
    exact ⟨_, rfl, Br.pos (by rw [h2]; simp) (fin _ (((hk69w.new1 hk72 (by omega)).new1 hk75 hb).new1 hk78 (by omega)))⟩
end Go.Proofs.Ytmhdplflflgbkaa
