/- Whatever bytes are scanned, what is told is the document's: what the printed statement of FrameScans asks, where they are few. Condition: the length is at most 1048576. -/
import Derived.Test.YtipfcibdkbneoaaPFrame
import Derived.Test.YtipfcibdkbneoaaPAllx44
namespace Go.Proofs.Ytipfcibdkbneoaa.Pure
open Go Go.RowKit Go.Proofs.Ytipfcibdkbneoaa.PAll Go.Proofs.Ytipfcibdkbneoaa.Crc Go.Proofs.Ytipfcibdkbneoaa.Leb Go.Proofs.YtipfcibdkbneoaaVW.PrintWords Go.Proofs.YtipfcibdkbneoaaVW.PrintLast
theorem FrameScansU : ∀ (l0 : List Int), l0.length ≤ maxLen → l0.length * 1 ≤ 140737488351232 → (∀ x ∈ l0, (Lit.int .u8 x).wf = true) → l0.length ≤ 1048576 → ∃ k, stooklaw03_FrameScans.f k l0 = some true := by
  intro b _ _ hw hu
  have hb := Bytes.of_wf hw
  obtain ⟨h1, h2⟩ := fscan_len b hb b.length (b.length + 1) 0 (by omega)
  rw [show ((0 : Nat) : Int) = 0 from rfl] at h1 h2
  have h3 : (fall b).1.length ≤ b.length ∧ ∀ p ∈ (fall b).1, p.length ≤ 65536 := by
    unfold fall
    split
    · exact ⟨h1, h2⟩
    · exact ⟨Nat.zero_le _, by simp⟩
  obtain ⟨k, hk⟩ : ∃ k, k = b.length + 90000 := ⟨_, rfl⟩
  refine ⟨k, ?_⟩
  unfold stooklaw03_FrameScans.f
  rw [framescan_f k b hb (by omega) (by omega), bnd, refscan_f k b hb (by omega) (by omega), bnd, all_f k b hb (by omega) (by omega), bnd, refall_f k b hb (by omega) (by omega), bnd, rows_self k _ (by omega) h2 (by omega), bnd, if_pos rfl, if_pos rfl,
    rows_self k _ (by omega) h3.2 (by omega), bnd, if_pos rfl, if_pos rfl, frameworks_f k (by omega), bnd]
end Go.Proofs.Ytipfcibdkbneoaa.Pure
