/- Rows of the call's own whose room behind is known, too: deal.places, deal.Turn. For the law DealFresh. -/
import Derived.Test.YtemmjinfeaafdaaPAllx5
import Derived.Test.YtemmjinfeaafdaaSwap
set_option linter.unusedVariables false
set_option linter.unusedSimpArgs false
namespace Go.Proofs.Ytemmjinfeaafdaa.PAll
open Go.RowKit Go.Proofs.YtemmjinfeaafdaaVW.PrintWords Go.Proofs.YtemmjinfeaafdaaVW.PrintLast Go.Proofs.YtemmjinfeaafdaaVW.PrintMore Go.Proofs.Ytemmjinfeaafdaa.Hand
attribute [local go_sem] max2_int min2_int max_two min_two max_three min_three max_four min_four   -- for this text's walks alone
/-- nil, or a slice of a block of the call's own that holds numbers all through. -/
def Full (w : World) (base : Nat) (v : Value) : Prop := v = .slice none 0 0 ∨ ∃ (g n cap : Nat) (l : List Int), v = .slice (some ⟨g, 0, none⟩) n cap ∧ base ≤ g ∧ g < w.heap.size ∧ Row w g l ∧ n ≤ cap ∧ cap ≤ l.length ∧ l.length ≤ 65536
def TwoB (e : Ending) (v : Value) : Prop := ∃ b : Bool, e = .returned (.tuple #[v, .bool b])
def TwoE (e : Ending) (v : Value) : Prop := ∃ x : Int, e = .returned (.tuple #[v, .int .i64 x])

theorem Row.below {w w' : World} {g : Nat} {l : List Int} (h : Row w g l) (hb : Below w.heap.size w w') : Row w' g l := (hb.block g (lt_of_block h)).trans h
theorem made_row (n : Nat) (W : World) (hn : n ≤ 65536) : (Instr.makeSlice 22 (.int .i64 (n : Int)) (.int .i64 (n : Int))).run Try.prog W = .ok (.slice (some ⟨W.heap.size, 0, none⟩) n n) (W.alloc (.cells (cellsOf (List.replicate n 0)) 3)) := by
  obtain ⟨i0, hi, hz0, hz1, hz2⟩ := info_parts info3
  have hr := run_make (P := Try.prog) W 22 3 i0 (.int .i64 0) Try.underlying22 hi hz0 .i64 .i64 (n : Int) (n : Int) (by omega) (by omega) (by rw [hz2]; omega) (by omega)
  rw [hr, hz1, Int.toNat_natCast, made_cells]
set_option maxHeartbeats 8000000 in
set_option maxRecDepth 100000 in
theorem places_full (A0 : Option Addr) (c0 : Nat) (l0 : List Int) (w : World) (hr0 : Kd.C (Kd.int .i64) w A0 l0.length l0) :
    Calls Try.prog 36 #[.slice A0 l0.length c0] w fun e w' => ∃ v : Value, TwoB e v ∧ Full w' w.heap.size v ∧ Below w.heap.size w w' := by
  by_cases hn : l0.length ≤ 65536
  · have hmk := fun W => made_row l0.length W hn
    have HR0 := Aside0.mk hr0
    clear hr0
    have hlen : ¬ ((l0.length : Int) > 65536) := by omega
    go_enter Try.func36, Try.ntmps36
    go_wp2
    go_loopw [16] (fun i wr => ∃ (j : Nat) (l : List Int), j ≤ l0.length ∧ i = .int .i64 j ∧ Aside0 (l.length = l0.length ∧ Row wr w.heap.size l) ∧ Aside0 (Below w.heap.size w wr)) (fun i _ => l0.length - (intOf i).toNat)
    case atStart => exact ⟨0, List.replicate l0.length 0, Nat.zero_le _, rfl, ⟨by simp, heap_alloc_new _ _⟩, ⟨(Below.refl _ w).alloc (Nat.le_refl _) _⟩⟩
    case round =>
      obtain ⟨j, l, hj, rfl, hL, hB⟩ := hrel
      by_cases hjl : j < l0.length
      · have q1 : (0 : Int) ≤ j := by omega
        have q2 : (j : Int) < l0.length := by omega
        obtain ⟨x1, ci⟩ : ∃ x, wr.cell? ⟨w.heap.size, j, none⟩ = some (.int .i64 x) := ⟨_, hL.out.2.cell (by rw [hL.out.1]; exact hjl)⟩
        have fi := hL.out.2.free j
        go_wp2
        go_roundw
        case rel => exact ⟨j + 1, l.set j (-1), by omega, by first | rfl | go_num, ⟨by rw [List.length_set]; exact hL.out.1, hL.out.2.set j (-1)⟩, ⟨hB.out.setCell (p := ⟨w.heap.size, j, none⟩) (Nat.le_refl _) _⟩⟩
        case measure => simp [intOf]; omega
      · have q9 : ¬ ((j : Int) < l0.length) := by omega
        clear hjl hj
        go_wp2
        go_loopw [25] (fun i wr => ∃ (j : Nat) (l : List Int), j ≤ l0.length ∧ i = .int .i64 j ∧ Aside0 (l.length = l0.length ∧ Row wr w.heap.size l) ∧ Aside0 (Below w.heap.size w wr)) (fun i _ => l0.length - (intOf i).toNat)
        case atStart => exact ⟨0, l, Nat.zero_le _, rfl, hL, hB⟩
        case round =>
          clear hL hB q9
          obtain ⟨j, l, hj, rfl, hL, hB⟩ := hrel
          by_cases hjl : j < l0.length
          · have q1 : (0 : Int) ≤ j := by omega
            have q2 : (j : Int) < l0.length := by omega
            obtain ⟨ad, eA, hx⟩ := Kd.at_int HR0.out (j : Int) q1 q2
            cases eA
            rw [Int.toNat_natCast] at hx
            have hx2 := (hB.out.cell (World.block_lt_of_cell? w _ hx)).trans hx
            obtain ⟨x, hxd⟩ : ∃ x, x = rd l0 (j : Int) := ⟨_, rfl⟩
            rw [← hxd] at hx2
            clear hxd hx
            by_cases c1 : x < 0
            · go_wp2
              go_ret2
              exact ⟨_, ⟨_, rfl⟩, Or.inl rfl, hB.out⟩
            · by_cases c2 : (l0.length : Int) ≤ x
              · go_wp2
                go_ret2
                exact ⟨_, ⟨_, rfl⟩, Or.inl rfl, hB.out⟩
              · obtain ⟨m, rfl⟩ : ∃ m : Nat, x = m := ⟨x.toNat, by omega⟩
                have hm : m < l0.length := by omega
                have q3 : (0 : Int) ≤ m := by omega
                have q4 : (m : Int) < l0.length := by omega
                obtain ⟨y, cy⟩ : ∃ y, wr.cell? ⟨w.heap.size, m, none⟩ = some (.int .i64 y) := ⟨_, hL.out.2.cell (by rw [hL.out.1]; exact hm)⟩
                have fy := hL.out.2.free m
                by_cases c3 : (0 : Int) ≤ y
                · go_wp2
                  go_ret2
                  exact ⟨_, ⟨_, rfl⟩, Or.inl rfl, hB.out⟩
                · go_wp2
                  go_roundw
                  case rel => exact ⟨j + 1, l.set m (j : Int), by omega, by first | rfl | go_num, ⟨by rw [List.length_set]; exact hL.out.1, hL.out.2.set m (j : Int)⟩, ⟨hB.out.setCell (p := ⟨w.heap.size, m, none⟩) (Nat.le_refl _) _⟩⟩
                  case measure => simp [intOf]; omega
          · have q9 : ¬ ((j : Int) < l0.length) := by omega
            go_wp2
            go_ret2
            exact ⟨_, ⟨_, rfl⟩, Or.inr ⟨w.heap.size, l0.length, l0.length, l, rfl, Nat.le_refl _, lt_of_block hL.out.2, hL.out.2, Nat.le_refl _, Nat.le_of_eq hL.out.1.symm, by rw [hL.out.1]; exact hn⟩, hB.out⟩
  · have hlen : (l0.length : Int) > 65536 := by omega
    go_enter Try.func36, Try.ntmps36
    go_wp2
    go_ret2
    exact ⟨_, ⟨_, rfl⟩, Or.inl rfl, Below.refl _ _⟩
set_option maxHeartbeats 8000000 in
set_option maxRecDepth 100000 in
theorem turn_full (A0 : Option Addr) (c0 : Nat) (l0 : List Int) (w : World) (hr0 : Kd.C (Kd.int .i64) w A0 l0.length l0) :
    Calls Try.prog 18 #[.slice A0 l0.length c0] w fun e w' => ∃ v : Value, TwoE e v ∧ Full w' w.heap.size v ∧ Below w.heap.size w w' := by
  by_cases hn : l0.length ≤ 65536
  · have hlen : ¬ ((l0.length : Int) > 65536) := by omega
    have HR0 := Aside0.mk hr0
    clear hr0
    go_enter Try.func18, Try.ntmps18
    go_wp2_with (first | (go_at_call 36; refine (places_full A0 c0 l0 w HR0.out).mono ?_; rintro e w8 ⟨v, ⟨b, rfl⟩, hF, hB⟩; cases b))
    all_goals go_ret2
    · exact ⟨_, ⟨_, rfl⟩, Or.inl rfl, by assumption⟩
    · exact ⟨_, ⟨_, rfl⟩, by assumption, by assumption⟩
  · have hlen : (l0.length : Int) > 65536 := by omega
    go_enter Try.func18, Try.ntmps18
    go_wp2
    go_ret2
    exact ⟨_, ⟨_, rfl⟩, Or.inl rfl, Below.refl _ _⟩
end Go.Proofs.Ytemmjinfeaafdaa.PAll
