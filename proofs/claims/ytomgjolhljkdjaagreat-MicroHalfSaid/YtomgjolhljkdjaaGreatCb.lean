/- Plain facts: what is reflected (fresnel), as programs of a calculator; of lesser intervals comes a lesser one. -/
import Derived.Test.YtomgjolhljkdjaaGreatCa
namespace Go.Proofs.YtomgjolhljkdjaaGreat
open Go Go.RowKit

end Go.Proofs.YtomgjolhljkdjaaGreat
