/- Plain facts: rough surfaces (oren), as programs of a calculator; of lesser intervals comes a lesser one. -/
import Derived.Test.YtomgjolhljkdjaaGreatCb
import Derived.Test.YtomgjolhljkdjaaGreatLm
namespace Go.Proofs.YtomgjolhljkdjaaGreat
open Go Go.RowKit

end Go.Proofs.YtomgjolhljkdjaaGreat
