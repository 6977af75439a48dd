/- f0.SpoilInts at a row of the call's own whose room behind is known, and a row of words of the call's own that is written over. For the law DealFresh. -/
import Derived.Test.YtemmjinfeaafdaaFull
set_option linter.unusedVariables false
set_option linter.unusedSimpArgs false
namespace Go.Proofs.Ytemmjinfeaafdaa.PAll
open Go.RowKit Go.Proofs.YtemmjinfeaafdaaVW.PrintWords Go.Proofs.YtemmjinfeaafdaaVW.PrintLast Go.Proofs.YtemmjinfeaafdaaVW.PrintMore Go.Proofs.Ytemmjinfeaafdaa.Hand
theorem cells_len {w : World} {g : Nat} {l m : List Int} (h : Row w g l) (k : Row w g m) : l.length = m.length := by
  unfold Row at h k
  rw [h] at k
  have e := Option.some.inj k
  injection e with e1
  have := congrArg Array.size e1
  simpa [cellsOf] using this
set_option maxHeartbeats 8000000 in
set_option maxRecDepth 100000 in
theorem spoil_row (g n cap : Nat) (l : List Int) (w : World) (hR : Row w g l) (hn : n ≤ cap) (hc : cap ≤ l.length) (hl : l.length ≤ 65536) :
    Calls Try.prog 27 #[.slice (some ⟨g, 0, none⟩) n cap, .int .i64 1] w fun e w' => e = .returned (.tuple #[]) ∧ (∃ m : List Int, m.length = l.length ∧ Row w' g m) ∧ (∀ j, j ≠ g → w'.heap[j]? = w.heap[j]?) ∧ Below g w w' := by
  have q1 : (0 : Int) ≤ cap := by omega
  have q2 : (cap : Int) ≤ cap := by omega
  have q3 : (n : Int) ≤ cap := by omega
  go_enter Try.func27, Try.ntmps27
  go_wp2
  go_loopw [4] (fun i wr => ∃ j : Nat, j ≤ cap ∧ i = .int .i64 j ∧ Aside0 (∃ m : List Int, m.length = l.length ∧ Row wr g m) ∧ Aside0 ((∀ j, j ≠ g → wr.heap[j]? = w.heap[j]?) ∧ Below g w wr)) (fun i _ => cap - (intOf i).toNat)
  case atStart => exact ⟨0, Nat.zero_le _, rfl, ⟨l, rfl, hR⟩, ⟨fun _ _ => rfl, Below.refl _ _⟩⟩
  case round =>
    obtain ⟨j, hj, rfl, hM, hB⟩ := hrel
    by_cases hjl : j < cap
    · obtain ⟨m, hm, hRm⟩ := hM.out
      have q4 : (0 : Int) ≤ j := by omega
      have q5 : (j : Int) < cap := by omega
      have cj := hRm.cell (i := j) (by omega)
      have fj := hRm.free j
      have HM := Aside0.mk hm
      have HRm := Aside0.mk hRm
      clear hm hRm
      go_wp2
      go_roundw
      case rel => exact ⟨j + 1, by omega, by first | rfl | go_num, ⟨_, by rw [List.length_set]; exact HM.out, HRm.out.set j _⟩, ⟨fun q hq => (Below.heap_setCell _ ⟨g, j, none⟩ _ q hq).trans (hB.out.1 q hq), hB.out.2.setCell (p := ⟨g, j, none⟩) (Nat.le_refl _) _⟩⟩
      case measure => simp [intOf]; omega
    · have q9 : ¬ ((j : Int) < cap) := by omega
      go_wp2
      go_end0
      exact ⟨rfl, hM.out, hB.out.1, hB.out.2⟩
set_option maxHeartbeats 8000000 in
set_option maxRecDepth 100000 in
theorem spoil_nil (w : World) : Calls Try.prog 27 #[.slice none 0 0, .int .i64 1] w fun e w' => e = .returned (.tuple #[]) ∧ w' = w := by
  go_enter Try.func27, Try.ntmps27
  go_wp2
  refine wp_loop_rounds 1 ?_
  rw [rounds_succ]
  go_wp2
  go_end0
  exact ⟨rfl, rfl⟩
/-- What is spoilt stays numbers; all else stays. -/
theorem spoil_full (base : Nat) (v : Value) (w : World) (h : Full w base v) (hb : base ≤ w.heap.size) :
    Calls Try.prog 27 #[v, .int .i64 1] w fun e w' => e = .returned (.tuple #[]) ∧ Below base w w' ∧ (∀ j, some j ≠ v.ownBlock → w'.heap[j]? = w.heap[j]?) ∧ ∀ b u, Full w b u → Full w' b u := by
  rcases h with rfl | ⟨g, n, cap, l, rfl, hg, hlt, hR, hn, hc, hl⟩
  · refine (spoil_nil w).mono ?_
    rintro e w' ⟨rfl, rfl⟩
    exact ⟨rfl, Below.refl _ _, fun _ _ => rfl, fun _ _ q => q⟩
  · refine (spoil_row g n cap l w hR hn hc hl).mono ?_
    rintro e w' ⟨rfl, ⟨m, hm, hRm⟩, hj, hB⟩
    refine ⟨rfl, hB.mono hg, fun j hne => hj j (fun q => hne (by rw [q]; rfl)), fun b u hu => ?_⟩
    rcases hu with rfl | ⟨g2, n2, cap2, l2, rfl, hg2, hlt2, hR2, hn2, hc2, hl2⟩
    · exact Or.inl rfl
    · by_cases e : g2 = g
      · subst e
        have := cells_len hR hR2
        exact Or.inr ⟨g2, n2, cap2, m, rfl, hg2, Nat.lt_of_lt_of_le hlt2 hB.size, hRm, hn2, by omega, by omega⟩
      · exact Or.inr ⟨g2, n2, cap2, l2, rfl, hg2, Nat.lt_of_lt_of_le hlt2 hB.size, (hj g2 e).trans hR2, hn2, hc2, hl2⟩
theorem Full.below {w w' : World} {b : Nat} {v : Value} (h : Full w b v) (hb : Below w.heap.size w w') : Full w' b v := by
  rcases h with rfl | ⟨g, n, cap, l, rfl, hg, hlt, hR, hn, hc, hl⟩
  · exact Or.inl rfl
  · exact Or.inr ⟨g, n, cap, l, rfl, hg, Nat.lt_of_lt_of_le hlt hb.size, (hb.block g hlt).trans hR, hn, hc, hl⟩
theorem Full.own {w : World} {b : Nat} {v : Value} (h : Full w b v) : ∀ j, v.ownBlock = some j → b ≤ j ∧ j < w.heap.size := by
  intro j hj
  rcases h with rfl | ⟨g, n, cap, l, rfl, hg, hlt, hR, hn, hc, hl⟩
  · simp [Value.ownBlock] at hj
  · have : g = j := by simpa [Value.ownBlock] using hj
    subst this
    exact ⟨hg, hlt⟩
end Go.Proofs.Ytemmjinfeaafdaa.PAll
