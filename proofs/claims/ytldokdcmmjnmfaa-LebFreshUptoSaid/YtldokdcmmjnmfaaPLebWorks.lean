/- The numbers that the law's works tells come out. No condition. -/
import Derived.Test.YtldokdcmmjnmfaaPLeb
import Derived.Test.YtldokdcmmjnmfaaPAllx6
namespace Go.Proofs.Ytldokdcmmjnmfaa.Pure
open Go Go.RowKit Go.Proofs.Ytldokdcmmjnmfaa.PAll Go.Proofs.Ytldokdcmmjnmfaa.Crc Go.Proofs.Ytldokdcmmjnmfaa.Leb Go.Proofs.YtldokdcmmjnmfaaVW.PrintWords Go.Proofs.YtldokdcmmjnmfaaVW.PrintLast
theorem enc300 : enc 300 = [172, 2] := by rw [enc_ge (by decide), enc_lt (by decide)]; rfl
theorem lebworks_f (k : Nat) (hk : 30 < k) : stooklaw01_works.f k = some true := by
  unfold stooklaw01_works.f
  have g1 : gets [172, 2] 0 = (300, 2, 0) := by decide +kernel
  have g2 : gets [128, 0] 0 = (0, 0, 5) := by decide +kernel
  have p := put_f k 300 (by decide) (by rw [enc300]; simp; omega)
  have l := len_f k 300 (by decide) (by omega)
  rw [enc300] at p l
  rw [get_f k _ 0 (by unfold Bytes; decide) (by decide) (by omega), bnd, get_f k _ 0 (by unfold Bytes; decide) (by decide) (by omega), bnd, show (300 : Int) = ((300 : Nat) : Int) from rfl, p, bnd, same_self k _ (by decide) (by simp; omega), bnd, if_pos rfl, l, bnd, g1, g2]
  rfl
end Go.Proofs.Ytldokdcmmjnmfaa.Pure
