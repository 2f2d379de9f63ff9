/- BucketsNone and BucketsPlay hold: for every input these laws return true, and what came in reads as it did. No condition. -/
import Derived.Test.YtmhdplflflgbkaaRows
import Derived.Test.YtmhdplflflgbkaaV6
import Derived.Test.YtmhdplflflgbkaaC
namespace Go.Proofs.Ytmhdplflflgbkaa
open Go.Vc

theorem Try.own : ownKnob Try.prog.godebug = none := by kernel_rfl
theorem Try.laidOut : laidOutB Try.prog = true := by kernel_rfl

theorem lawNone_law : Law Try.prog 5 Try.f5.params.toList := by
  intro W args hlen harg
  match args, hlen with
  | [v0], _ =>
    obtain ⟨n, rfl, _⟩ := (harg 0 3 v0 rfl rfl).int Try.underlying3
    exact lawNone_ca n W

set_option maxRecDepth 100000 in
theorem lawNone_lifted (os : Os) (started : os.Started) (H : Type) (enc : TypeId × Value → H) :
    ReturnsInHanded {} Try.checked os 5 .any (Rows.bucketsNoneSpec.pre6 enc Try.prog Try.f5 Rows.bucketsNoneRow.domain false) (Rows.bucketsNoneSpec.post enc Try.prog Try.f5 false true false false) :=
  law_lifted (C := Try.checked) (bt := 4) Try.own started (by kernel_rfl) Try.func5
    (ChangeSpec.witness6 (enc := enc) (C := Try.checked) false ⟨#[], #[.int .i64 0], []⟩ 8 (by kernel_rfl) (by kernel_rfl) (by kernel_rfl) (by kernel_rfl))
    Try.laidOut (by kernel_rfl) rfl Try.underlying4 rfl (fun ds hd => by match ds, hd with | [_], _ => rfl) lawNone_law

theorem BucketsNone_holds : Rows.BucketsNoneSaid :=
  OpenClaim.holds_of_wide 5 Try.f5 rfl rfl rfl rfl rfl rfl rfl ⟨rfl, rfl, rfl, rfl, rfl⟩ rfl rfl rfl rfl rfl (by kernel_rfl) Try.func5 (by kernel_rfl)
    (of_decide_eq_true (by kernel_rfl)) (by unfold Func.isWrapper; first | (rw [if_pos (by decide +kernel)]; kernel_rfl) | (rw [if_neg (by decide +kernel)]; exact ⟨rfl, rfl⟩))
    (fun os started H enc _ => lawNone_lifted os started H enc)
theorem lawPlay_law : Law Try.prog 4 Try.f4.params.toList := by
  intro W args hlen harg
  match args, hlen with
  | [v0, v1, v2], _ =>
    obtain ⟨c, rfl, _⟩ := (harg 0 3 v0 rfl rfl).int Try.underlying3
    obtain ⟨r, rfl, _⟩ := (harg 1 3 v1 rfl rfl).int Try.underlying3
    obtain ⟨p, n, m, rfl, _, _, hel⟩ := (harg 2 32 v2 rfl rfl).slice Try.underlying32
    refine lawPlay_ca c r p n m W fun i hi => ?_
    obtain ⟨a, vs, rfl, hl, hrow, hrd⟩ := hel i hi
    rw [show Try.prog.cellsOf 37 = 2 by kernel_rfl] at hrow hl
    obtain ⟨_, hf⟩ := hrd.struct Try.underlying37
    match vs, hl with
    | [x, y], _ =>
      have h0 : Rd Try.prog W 5 [x] := hf 0 _ rfl
      have h1 : Rd Try.prog W 3 [y] := hf 1 _ rfl
      obtain ⟨kd, hk, _⟩ := h0.int Try.underlying5
      obtain ⟨nw, hn, _⟩ := h1.int Try.underlying3
      simp only [List.cons.injEq, and_true] at hk hn
      subst hk; subst hn
      exact ⟨a, kd, nw, rfl, by have := row_block hrow; rwa [block_add] at this, hrow⟩

set_option maxRecDepth 100000 in
theorem lawPlay_lifted (os : Os) (started : os.Started) (H : Type) (enc : TypeId × Value → H) :
    ReturnsInHanded {} Try.checked os 4 .any (Rows.bucketsPlaySpec.pre6 enc Try.prog Try.f4 Rows.bucketsPlayRow.domain false) (Rows.bucketsPlaySpec.post enc Try.prog Try.f4 false true false false) :=
  law_lifted (C := Try.checked) (bt := 4) Try.own started (by kernel_rfl) Try.func4
    (ChangeSpec.witness6 (enc := enc) (C := Try.checked) false ⟨#[], #[.int .i64 0, .int .i64 0, .slice none 0 0], []⟩ 8 (by kernel_rfl) (by kernel_rfl) (by kernel_rfl) (by kernel_rfl))
    Try.laidOut (by kernel_rfl) rfl Try.underlying4 rfl (fun ds hd => by match ds, hd with | [_, _, _], _ => rfl) lawPlay_law

theorem BucketsPlay_holds : Rows.BucketsPlaySaid :=
  OpenClaim.holds_of_wide 4 Try.f4 rfl rfl rfl rfl rfl rfl rfl ⟨rfl, rfl, rfl, rfl, rfl⟩ rfl rfl rfl rfl rfl (by kernel_rfl) Try.func4 (by kernel_rfl)
    (of_decide_eq_true (by kernel_rfl)) (by unfold Func.isWrapper; first | (rw [if_pos (by decide +kernel)]; kernel_rfl) | (rw [if_neg (by decide +kernel)]; exact ⟨rfl, rfl⟩))
    (fun os started H enc _ => lawPlay_lifted os started H enc)
end Go.Proofs.Ytmhdplflflgbkaa
