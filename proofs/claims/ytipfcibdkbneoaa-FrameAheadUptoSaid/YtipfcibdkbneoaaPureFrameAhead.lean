/- What a scan tells of bytes it tells of these with more behind them: what the printed statement of FrameAhead asks, where they are few. Condition: the lengths' sum is at most 1048576. -/
import Derived.Test.YtipfcibdkbneoaaPFrame
import Derived.Test.YtipfcibdkbneoaaPAllx42
namespace Go.Proofs.Ytipfcibdkbneoaa.Pure
open Go Go.RowKit Go.Proofs.Ytipfcibdkbneoaa.PAll Go.Proofs.Ytipfcibdkbneoaa.Crc Go.Proofs.Ytipfcibdkbneoaa.Leb Go.Proofs.YtipfcibdkbneoaaVW.PrintWords Go.Proofs.YtipfcibdkbneoaaVW.PrintLast
theorem FrameAheadU : ∀ (l0 : List Int) (l1 : List Int), l0.length ≤ maxLen → l0.length * 1 ≤ 140737488351232 → (∀ x ∈ l0, (Lit.int .u8 x).wf = true) → l1.length ≤ maxLen → l1.length * 1 ≤ 140737488351232 → (∀ x ∈ l1, (Lit.int .u8 x).wf = true) → l0.length + l1.length ≤ 1048576 → ∃ k, stooklaw03_FrameAhead.f k l0 l1 = some true := by
  intro b c _ _ hbw _ _ hcw hu
  have hb := Bytes.of_wf hbw
  have hc := Bytes.of_wf hcw
  have hlen : (b ++ c).length = b.length + c.length := List.length_append
  obtain ⟨h1, h2⟩ := fscan_len b hb b.length (b.length + 1) 0 (by omega)
  obtain ⟨⟨z, hz⟩, he, _⟩ := fscan_more b c hb hc b.length (b.length + 1) 0 (by omega) (by omega) ((b ++ c).length + 1) (by omega)
  rw [show ((0 : Nat) : Int) = 0 from rfl] at h1 h2 hz he
  obtain ⟨k, hk⟩ : ∃ k, k = b.length + c.length + 90000 := ⟨_, rfl⟩
  refine ⟨k, ?_⟩
  unfold stooklaw03_FrameAhead.f
  rw [framescan_f k b hb (by omega) (by omega), bnd, if_pos (by rw [List.length_nil]; omega), bnd, List.nil_append, if_pos (by omega), framescan_f k (b ++ c) (hb.append hc) (by omega) (by omega), bnd]
  simp only []
  rw [hz, if_pos (by rw [List.length_append]; omega), if_pos he, if_pos (by omega), if_pos (by rw [List.length_append]; omega), Int.toNat_natCast, List.take_left, rows_self k _ (by omega) h2 (by omega), bnd, if_pos rfl, frameworks_f k (by omega), bnd]
end Go.Proofs.Ytipfcibdkbneoaa.Pure
