/- A number with a sign becomes one without, and back: the printed statement of PackFolds. No condition. -/
import Derived.Test.YtipfcibdkbneoaaPPack
import Derived.Test.YtipfcibdkbneoaaPAllx17
namespace Go.Proofs.Ytipfcibdkbneoaa.Pure
open Go Go.RowKit Go.Proofs.Ytipfcibdkbneoaa.PAll Go.Proofs.Ytipfcibdkbneoaa.Crc Go.Proofs.Ytipfcibdkbneoaa.Leb Go.Proofs.Ytipfcibdkbneoaa.Pack Go.Proofs.YtipfcibdkbneoaaVW.PrintWords Go.Proofs.YtipfcibdkbneoaaVW.PrintLast
theorem PackFolds : stooklaw12_PackFolds.Pure := by
  intro n u hn hu
  have h1 := i64_wf hn
  have h2 := u64_wf hu
  obtain ⟨v, rfl⟩ := Int.eq_ofNat_of_zero_le h2.1
  refine ⟨200001, ?_⟩
  unfold stooklaw12_PackFolds.f
  rw [fold_f h1.1 h1.2, bnd, reffold_f h1.1 h1.2, bnd, if_pos rfl, unfold_f (by omega), bnd, refunfold_f (by omega), bnd, if_pos rfl, packworks_f _ (by omega), bnd]
end Go.Proofs.Ytipfcibdkbneoaa.Pure
