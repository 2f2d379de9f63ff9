/- MasterSure, as a law of what comes in. -/
import Derived.Test.YtljipmhkpnigkaaMI
namespace Go.Proofs.Ytljipmhkpnigkaa
open Go.Vc Go.Codec

theorem MasterSure_law : Law Try.prog 7 Try.f7.params.toList := by
  intro W args hlen harg
  match args, hlen with
  | [v0, v1], _ =>
    obtain ⟨c, p, k, rfl, hM, hk, hk'⟩ := cfArg (harg 0 24 v0 rfl rfl)
    obtain ⟨l, pq, kq, rfl, hA, hl⟩ := actsArg (harg 1 39 v1 rfl rfl)
    exact lawMSure_pw hM rfl hk hk' hA rfl hl
end Go.Proofs.Ytljipmhkpnigkaa
