/- MasterRises, as a law of what comes in. -/
import Derived.Test.YtljipmhkpnigkaaMN
namespace Go.Proofs.Ytljipmhkpnigkaa
open Go.Vc Go.Codec

theorem MasterRises_law : Law Try.prog 6 Try.f6.params.toList := by
  intro W args hlen harg
  match args, hlen with
  | [v0, v1, v2], _ =>
    obtain ⟨c, p, k, rfl, hM, hk, hk'⟩ := cfArg (harg 0 24 v0 rfl rfl)
    obtain ⟨l, pq, kq, rfl, hA, hl⟩ := actsRArg (harg 1 39 v1 rfl rfl)
    obtain ⟨tk, pt, kt, rfl, hT⟩ := ticksArg (harg 2 40 v2 rfl rfl)
    exact lawMRises_pw hM rfl hk hk' hA rfl hl hT rfl
end Go.Proofs.Ytljipmhkpnigkaa
