/- Two sums are joined as the document says, or refused so: the printed statement of CrcJoins. No condition. -/
import Derived.Test.YtdcggaaaknafmaaPJoin
import Derived.Test.YtdcggaaaknafmaaPAllx16
namespace Go.Proofs.Ytdcggaaaknafmaa.Pure
open Go Go.RowKit Go.Proofs.Ytdcggaaaknafmaa.PAll Go.Proofs.Ytdcggaaaknafmaa.Crc Go.Proofs.YtdcggaaaknafmaaVW.PrintWords Go.Proofs.YtdcggaaaknafmaaVW.PrintLast
theorem CrcJoins : stooklaw02_CrcJoins.Pure := by
  intro a b n ha hb _
  obtain ⟨A, rfl⟩ := bv32 (u32_wf ha).1 (u32_wf ha).2
  obtain ⟨B, rfl⟩ := bv32 (u32_wf hb).1 (u32_wf hb).2
  obtain ⟨k, hk⟩ : ∃ k, k = 1048600 := ⟨_, rfl⟩
  refine ⟨k, ?_⟩
  unfold stooklaw02_CrcJoins.f
  by_cases hn : n < 0 ∨ 1048576 < n
  · rw [join_no k A B n hn, bnd, refjoin_no k A B n hn (by omega), bnd, if_pos rfl, if_pos rfl, crcworks_f k (by omega), bnd]
  · obtain ⟨m, rfl⟩ : ∃ m : Nat, n = m := ⟨n.toNat, by omega⟩
    rw [join_f k A B m (by omega), bnd, refjoin_f k A B m (by omega) (by omega), bnd, if_pos rfl, if_pos rfl, crcworks_f k (by omega), bnd]
end Go.Proofs.Ytdcggaaaknafmaa.Pure
