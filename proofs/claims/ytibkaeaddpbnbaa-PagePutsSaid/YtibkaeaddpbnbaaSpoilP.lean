/- f0.Spoil and f0.SpoilInts at a row of the call's own whose room behind is known. -/
import Derived.Test.YtibkaeaddpbnbaaFullK
set_option linter.unusedVariables false
set_option linter.unusedSimpArgs false
namespace Go.Proofs.Ytibkaeaddpbnbaa.PAll
open Go.RowKit Go.Proofs.YtibkaeaddpbnbaaVW.PrintWords Go.Proofs.YtibkaeaddpbnbaaVW.PrintLast Go.Proofs.YtibkaeaddpbnbaaVW.PrintMore
attribute [local go_sem] max2_int min2_int max_two min_two max_three min_three max_four min_four   -- for this text's walks alone
set_option maxHeartbeats 8000000 in
set_option maxRecDepth 100000 in
theorem bspoil_room (g n cap : Nat) (w : World) (hR : Room .u8 w g cap) (hn : n ≤ cap) (hc : cap ≤ maxLen) :
    Calls Try.prog 14 #[.slice (some ⟨g, 0, none⟩) n cap, .int .u8 9] w fun e w' => e = .returned (.tuple #[]) ∧ Room .u8 w' g cap ∧ (∀ j, j ≠ g → w'.heap[j]? = w.heap[j]?) ∧ Below g w w' := by
  have hc2 : cap ≤ 9223372036854775807 := by unfold maxLen at hc; omega
  clear hc
  have q1 : (0 : Int) ≤ cap := by omega
  have q2 : (cap : Int) ≤ cap := by omega
  have q3 : (n : Int) ≤ cap := by omega
  go_enter Try.func14, Try.ntmps14
  go_wp2
  go_loopw [4] (fun i wr => ∃ j : Nat, j ≤ cap ∧ i = .int .i64 j ∧ Aside0 (Room .u8 wr g cap) ∧ Aside0 ((∀ j, j ≠ g → wr.heap[j]? = w.heap[j]?) ∧ Below g w wr)) (fun i _ => cap - (intOf i).toNat)
  case atStart => exact ⟨0, Nat.zero_le _, rfl, ⟨hR⟩, ⟨fun _ _ => rfl, Below.refl _ _⟩⟩
  case round =>
    obtain ⟨j, hj, rfl, hM, hB⟩ := hrel
    by_cases hjl : j < cap
    · obtain ⟨⟨x, cj⟩, fj⟩ := hM.out.2 j hjl
      have q4 : (0 : Int) ≤ j := by omega
      have q5 : (j : Int) < cap := by omega
      go_wp2
      go_roundw
      case rel => exact ⟨j + 1, by omega, by first | rfl | go_num, ⟨hM.out.set j _⟩, ⟨fun q hq => (Below.heap_setCell _ ⟨g, j, none⟩ _ q hq).trans (hB.out.1 q hq), hB.out.2.setCell (p := ⟨g, j, none⟩) (Nat.le_refl _) _⟩⟩
      case measure => simp [intOf]; omega
    · have q9 : ¬ ((j : Int) < cap) := by omega
      go_wp2
      go_end0
      exact ⟨rfl, hM.out, hB.out.1, hB.out.2⟩
set_option maxHeartbeats 8000000 in
set_option maxRecDepth 100000 in
theorem bspoil_nil (w : World) : Calls Try.prog 14 #[.slice none 0 0, .int .u8 9] w fun e w' => e = .returned (.tuple #[]) ∧ w' = w := by
  go_enter Try.func14, Try.ntmps14
  go_wp2
  refine wp_loop_rounds 1 ?_
  rw [rounds_succ]
  go_wp2
  go_end0
  exact ⟨rfl, rfl⟩
/-- What is spoilt is new memory: all else stays. -/
theorem bspoil_full (base : Nat) (v : Value) (w : World) (h : Full .u8 w base v) :
    Calls Try.prog 14 #[v, .int .u8 9] w fun e w' => e = .returned (.tuple #[]) ∧ Below base w w' := by
  rcases h with rfl | ⟨g, n, cap, rfl, hg, hR, hn, hc⟩
  · refine (bspoil_nil w).mono ?_
    rintro e w' ⟨rfl, rfl⟩
    exact ⟨rfl, Below.refl _ _⟩
  · refine (bspoil_room g n cap w hR hn hc).mono ?_
    rintro e w' ⟨rfl, hRm, hj, hB⟩
    exact ⟨rfl, hB.mono hg⟩
end Go.Proofs.Ytibkaeaddpbnbaa.PAll
