/- What lives asks, and what it answers then. -/
import Derived.Test.YtjefgdggjchhbaaLives21
set_option linter.unusedVariables false
namespace Go.Proofs.Ytjefgdggjchhbaa.PAll
open Go.RowKit Go.Proofs.YtjefgdggjchhbaaVW.PrintWords Go.Proofs.YtjefgdggjchhbaaVW.PrintLast Go.Proofs.YtjefgdggjchhbaaVW.PrintMore
def Living (k : Nat) : Prop := stooklaw21_lives.f k = some true
theorem lives_calls (k : Nat) (w : World) (h : Living k) : Calls Try.prog 15 #[] w fun e w' => e = .returned (.bool true) ∧ Below w.heap.size w w' := stooklaw21_lives.calls k true w h rfl
end Go.Proofs.Ytjefgdggjchhbaa.PAll
