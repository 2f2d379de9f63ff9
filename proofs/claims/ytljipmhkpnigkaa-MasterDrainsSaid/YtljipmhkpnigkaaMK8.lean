/- MasterDrains, as a law of what comes in. -/
import Derived.Test.YtljipmhkpnigkaaMH
namespace Go.Proofs.Ytljipmhkpnigkaa
open Go.Vc Go.Codec

theorem MasterDrains_law : Law Try.prog 8 Try.f8.params.toList := by
  intro W args hlen harg
  match args, hlen with
  | [v0, v1], _ =>
    obtain ⟨c, p, k, rfl, hM, hk, hk'⟩ := cfArg (harg 0 24 v0 rfl rfl)
    obtain ⟨l, pq, kq, rfl, hA, hl⟩ := actsArg (harg 1 39 v1 rfl rfl)
    exact lawMDrains_pw hM rfl hk hk' hA rfl hl
end Go.Proofs.Ytljipmhkpnigkaa
