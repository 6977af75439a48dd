/- The newest of two is the document's, whatever bytes stand there. -/
import Derived.Test.YtkecgmoaojklbaaPRootTwo
import Derived.Test.YtkecgmoaojklbaaPAllx19
set_option linter.unusedVariables false
namespace Go.Proofs.Ytkecgmoaojklbaa.Pure
open Go Go.RowKit Go.Proofs.Ytkecgmoaojklbaa.PAll Go.Proofs.Ytkecgmoaojklbaa.Crc Go.Proofs.Ytkecgmoaojklbaa.Leb Go.Proofs.YtkecgmoaojklbaaVW.PrintWords Go.Proofs.YtkecgmoaojklbaaVW.PrintLast
theorem RootPicks : stooklaw16_RootPicks.Pure := by
  intro u v _ _ hu _ _ hv
  refine ⟨2200, ?_⟩
  unfold stooklaw16_RootPicks.f
  rw [rpick_f _ (by decide) u v (Bytes.of_wf hu) (Bytes.of_wf hv)]
  simp only [Option.bind_some]
  rw [refrpick_f _ (by decide) u v (Bytes.of_wf hu) (Bytes.of_wf hv)]
  simp only [Option.bind_some, beq_self_eq_true, Bool.and_self, if_true]
  rw [rootlives_f _ (by decide)]
  rfl
end Go.Proofs.Ytkecgmoaojklbaa.Pure
