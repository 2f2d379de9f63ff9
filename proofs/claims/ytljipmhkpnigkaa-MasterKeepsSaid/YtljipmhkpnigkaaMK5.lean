/- MasterKeeps, as a law of what comes in. -/
import Derived.Test.YtljipmhkpnigkaaML
namespace Go.Proofs.Ytljipmhkpnigkaa
open Go.Vc Go.Codec

theorem MasterKeeps_law : Law Try.prog 5 Try.f5.params.toList := by
  intro W args hlen harg
  match args, hlen with
  | [v0, v1, v2], _ =>
    obtain ⟨c, p, k, rfl, hM, hk, hk'⟩ := cfArg (harg 0 24 v0 rfl rfl)
    obtain ⟨l, pq, kq, rfl, hA, hl⟩ := actsArg (harg 1 39 v1 rfl rfl)
    obtain ⟨tk, pt, kt, rfl, hT⟩ := ticksArg (harg 2 40 v2 rfl rfl)
    exact lawMKeeps_pw hM rfl hk hk' hA rfl hl hT rfl
end Go.Proofs.Ytljipmhkpnigkaa
