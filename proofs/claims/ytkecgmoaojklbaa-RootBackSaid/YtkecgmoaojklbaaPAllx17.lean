/- stookref16_Get: walked by hand. -/
import Derived.Test.YtkecgmoaojklbaaRefGetHand
namespace Go.Proofs.Ytkecgmoaojklbaa.PAll
/-! ### stookref16_Get: function 16 -/
end Go.Proofs.Ytkecgmoaojklbaa.PAll
