/- Plain facts: what is reflected (fresnel), as programs of a calculator; of lesser intervals comes a lesser one. -/
import Derived.Test.YtiphdhpacklboaaGreatCa
namespace Go.Proofs.YtiphdhpacklboaaGreat
open Go Go.RowKit
end Go.Proofs.YtiphdhpacklboaaGreat
