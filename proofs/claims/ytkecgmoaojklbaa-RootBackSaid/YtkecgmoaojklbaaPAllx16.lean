/- root_Get: walked by hand. -/
import Derived.Test.YtkecgmoaojklbaaRootGetHand
namespace Go.Proofs.Ytkecgmoaojklbaa.PAll
/-! ### root_Get: function 15 -/
end Go.Proofs.Ytkecgmoaojklbaa.PAll
