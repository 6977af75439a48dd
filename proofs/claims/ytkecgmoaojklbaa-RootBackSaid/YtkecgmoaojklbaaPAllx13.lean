/- page_Put: walked by hand. -/
import Derived.Test.YtkecgmoaojklbaaPutHand
namespace Go.Proofs.Ytkecgmoaojklbaa.PAll
/-! ### page_Put: function 7 -/
end Go.Proofs.Ytkecgmoaojklbaa.PAll
