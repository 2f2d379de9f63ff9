/- BucketsFew holds: for every input this law returns true, and what came in reads as it did. No condition. -/
import Derived.Test.YtmhdplflflgbkaaRows
import Derived.Test.YtmhdplflflgbkaaV6
import Derived.Test.YtmhdplflflgbkaaG
namespace Go.Proofs.Ytmhdplflflgbkaa
open Go.Vc

theorem lawFew_law : Law Try.prog 3 Try.f3.params.toList := by
  intro W args hlen harg
  match args, hlen with
  | [v0, v1, v2], _ =>
    obtain ⟨c, rfl, hc⟩ := (harg 0 5 v0 rfl rfl).int Try.underlying5
    obtain ⟨r, rfl, hr⟩ := (harg 1 5 v1 rfl rfl).int Try.underlying5
    obtain ⟨p, n, m, rfl, _, _, hel⟩ := (harg 2 22 v2 rfl rfl).slice Try.underlying22
    refine lawFew_ca c r p n m W (wf_u8 hc) (wf_u8 hr) fun i hi => ?_
    obtain ⟨a, vs, rfl, hl, hrow, hrd⟩ := hel i hi
    rw [show Try.prog.cellsOf 5 = 1 by kernel_rfl] at hrow hl
    obtain ⟨d, hd, hw⟩ := hrd.int Try.underlying5
    subst hd
    exact ⟨a, d, rfl, hrow.1, wf_u8 hw⟩

set_option maxRecDepth 100000 in
theorem lawFew_lifted (os : Os) (started : os.Started) (H : Type) (enc : TypeId × Value → H) :
    ReturnsInHanded {} Try.checked os 3 .any (Rows.bucketsFewSpec.pre6 enc Try.prog Try.f3 Rows.bucketsFewRow.domain false) (Rows.bucketsFewSpec.post enc Try.prog Try.f3 false true false false) :=
  law_lifted (C := Try.checked) (bt := 4) (by kernel_rfl) started (by kernel_rfl) Try.func3
    (ChangeSpec.witness6 (enc := enc) (C := Try.checked) false ⟨#[], #[.int .u8 0, .int .u8 0, .slice none 0 0], []⟩ 8 (by kernel_rfl) (by kernel_rfl) (by kernel_rfl) (by kernel_rfl))
    (by kernel_rfl) (by kernel_rfl) rfl Try.underlying4 rfl (fun ds hd => by match ds, hd with | [_, _, _], _ => rfl) lawFew_law

theorem BucketsFew_holds : Rows.BucketsFewSaid :=
  OpenClaim.holds_of_wide 3 Try.f3 rfl rfl rfl rfl rfl rfl rfl ⟨rfl, rfl, rfl, rfl, rfl⟩ rfl rfl rfl rfl rfl (by kernel_rfl) Try.func3 (by kernel_rfl)
    (of_decide_eq_true (by kernel_rfl)) (by unfold Func.isWrapper; first | (rw [if_pos (by decide +kernel)]; kernel_rfl) | (rw [if_neg (by decide +kernel)]; exact ⟨rfl, rfl⟩))
    (fun os started H enc _ => lawFew_lifted os started H enc)
end Go.Proofs.Ytmhdplflflgbkaa
