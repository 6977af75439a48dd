/- page_Get: walked by hand. -/
import Derived.Test.YtkecgmoaojklbaaGetHand
namespace Go.Proofs.Ytkecgmoaojklbaa.PAll
/-! ### page_Get: function 9 -/
end Go.Proofs.Ytkecgmoaojklbaa.PAll
