/- What the contracts of this seat lean on in common. -/
import Derived.Test.YtljipmhkpnigkaaV13
import Derived.Test.YtljipmhkpnigkaaV10
namespace Go.Proofs.Ytljipmhkpnigkaa
end Go.Proofs.Ytljipmhkpnigkaa
