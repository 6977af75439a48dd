/- ShardNil: of no disk all is refused, walked by hand. -/
import Derived.Test.YtjefgdggjchhbaaShardLives
import Derived.BigRegion
import Derived.RegionTactic
set_option linter.unusedVariables false
set_option linter.unusedSimpArgs false
namespace Go.Proofs.Ytjefgdggjchhbaa.PAll
open Go.RowKit Go.Proofs.YtjefgdggjchhbaaVW.PrintWords Go.Proofs.YtjefgdggjchhbaaVW.PrintLast Go.Proofs.YtjefgdggjchhbaaVW.PrintMore
/-- No disk: none at all, or one that was never made. -/
def Off (w : World) (A : Option Addr) : Prop := A = none ∨ ∃ g, A = some ⟨g, 0, none⟩ ∧ w.cell? ⟨g, 0, none⟩ = some (.bool false)
theorem Off.below {w w' : World} {A : Option Addr} (h : Off w A) (hb : Below w.heap.size w w') : Off w' A := by
  rcases h with rfl | ⟨g, rfl, hc⟩
  · exact Or.inl rfl
  · refine Or.inr ⟨g, rfl, ?_⟩
    rw [← hc]
    exact hb.cell (World.block_lt_of_cell? _ _ hc)
set_option maxHeartbeats 8000000
set_option maxRecDepth 100000
theorem ready_off (w : World) (A : Option Addr) (h : Off w A) : Calls Try.prog 50 #[.pointer A] w fun e w' => e = .returned (.int .i64 1) ∧ Below w.heap.size w w' := by
  have HB := Aside0.mk (Below.refl w.heap.size w)
  rcases h with rfl | ⟨g, rfl, hc⟩
  · go_enter Try.func50, Try.ntmps50
    go_wp2
    go_ret
    exact ⟨rfl, HB.out⟩
  · go_enter Try.func50, Try.ntmps50
    go_wp2
    go_ret
    exact ⟨rfl, HB.out⟩
theorem get_off (w : World) (A : Option Addr) (v : Value) (h : Off w A) : Calls Try.prog 51 #[.pointer A, v] w fun e w' => e = .returned (.tuple #[.pointer none, .int .i64 1]) ∧ Below w.heap.size w w' := by
  have HO := Aside0.mk h
  clear h
  go_enter Try.func51, Try.ntmps51
  go_wp2_with ((try (refine gate_guard (by rfl) ?_; dsimp only)); go_at_call 50; (with_reducible refine (ready_off w A HO.out).mono ?_); rintro e w2 ⟨rfl, hb⟩; have HB := Aside0.mk hb; clear hb)
  go_ret2
  exact ⟨rfl, HB.out⟩
theorem size_off (w : World) (A : Option Addr) (v : Value) (h : Off w A) : Calls Try.prog 44 #[.pointer A, v] w fun e w' => e = .returned (.tuple #[.int .i64 0, .int .i64 1]) ∧ Below w.heap.size w w' := by
  have HO := Aside0.mk h
  clear h
  go_enter Try.func44, Try.ntmps44
  go_wp2_with ((try (refine gate_guard (by rfl) ?_; dsimp only)); go_at_call 51; (with_reducible refine (get_off w A _ HO.out).mono ?_); rintro e w2 ⟨rfl, hb⟩; have HB := Aside0.mk hb; clear hb)
  go_ret2
  exact ⟨rfl, HB.out⟩
theorem none_off (w : World) (A : Option Addr) (h : Off w A) : Calls Try.prog 43 #[.pointer A] w fun e w' => e = .returned (.bool true) ∧ Below w.heap.size w w' := by
  have HO := Aside0.mk h
  clear h
  go_enter Try.func43, Try.ntmps43
  go_wp2_with ((try (refine gate_guard (by rfl) ?_; dsimp only)); go_at_call 44; (with_reducible refine (size_off w A _ HO.out).mono ?_); rintro e w2 ⟨rfl, hb⟩; have HB := Aside0.mk hb; clear hb)
  go_ret
  exact ⟨rfl, HB.out⟩
theorem make_off (w : World) (A : Option Addr) (v n : Value) (h : Off w A) : Calls Try.prog 25 #[.pointer A, v, n] w fun e w' => e = .returned (.int .i64 1) ∧ Below w.heap.size w w' := by
  have HO := Aside0.mk h
  clear h
  go_enter Try.func25, Try.ntmps25
  go_wp2_with ((try (refine gate_guard (by rfl) ?_; dsimp only)); go_at_call 43; (with_reducible refine (none_off w A HO.out).mono ?_); rintro e w2 ⟨rfl, hb⟩; have HB := Aside0.mk hb; clear hb)
  go_ret
  exact ⟨rfl, HB.out⟩
theorem add_off (w : World) (A : Option Addr) (v r : Value) (h : Off w A) : Calls Try.prog 23 #[.pointer A, v, r] w fun e w' => e = .returned (.tuple #[.int .i64 0, .int .i64 1]) ∧ Below w.heap.size w w' := by
  have HO := Aside0.mk h
  clear h
  go_enter Try.func23, Try.ntmps23
  go_wp2_with ((try (refine gate_guard (by rfl) ?_; dsimp only)); go_at_call 43; (with_reducible refine (none_off w A HO.out).mono ?_); rintro e w2 ⟨rfl, hb⟩; have HB := Aside0.mk hb; clear hb)
  go_ret2
  exact ⟨rfl, HB.out⟩
theorem seal_off (w : World) (A : Option Addr) (v : Value) (h : Off w A) : Calls Try.prog 26 #[.pointer A, v] w fun e w' => e = .returned (.int .i64 1) ∧ Below w.heap.size w w' := by
  have HO := Aside0.mk h
  clear h
  go_enter Try.func26, Try.ntmps26
  go_wp2_with ((try (refine gate_guard (by rfl) ?_; dsimp only)); go_at_call 44; (with_reducible refine (size_off w A _ HO.out).mono ?_); rintro e w2 ⟨rfl, hb⟩; have HB := Aside0.mk hb; clear hb)
  go_ret
  exact ⟨rfl, HB.out⟩
theorem read_off (w : World) (A : Option Addr) (v a : Value) (h : Off w A) : Calls Try.prog 24 #[.pointer A, v, a] w fun e w' => e = .returned (.tuple #[.slice none 0 0, .int .i64 1]) ∧ Below w.heap.size w w' := by
  have HO := Aside0.mk h
  clear h
  go_enter Try.func24, Try.ntmps24
  go_wp2_with ((try (refine gate_guard (by rfl) ?_; dsimp only)); go_at_call 44; (with_reducible refine (size_off w A _ HO.out).mono ?_); rintro e w2 ⟨rfl, hb⟩; have HB := Aside0.mk hb; clear hb)
  go_ret2
  exact ⟨rfl, HB.out⟩
theorem nil_none (k : Nat) (n at_ : Int) (r : Value) (w : World) (hLv : Living k) : Calls Try.prog 6 #[.int .i64 n, .int .i64 at_, r, .bool false] w fun e w' => e = .returned (.bool true) ∧ Below w.heap.size w w' := by
  have HLV := Aside0.mk hLv
  clear hLv
  have HO1 : Aside0 (Off w none) := ⟨Or.inl rfl⟩
  have HB1 := Aside0.mk (Below.refl w.heap.size w)
  go_enter Try.func6, Try.ntmps6
  go_wp2_with (first
    | ((try (refine gate_guard (by rfl) ?_; dsimp only)); go_at_call 23; (with_reducible refine (add_off _ _ _ _ HO1.out).mono ?_); rintro e w2 ⟨rfl, hb⟩; have HO2 := Aside0.mk (HO1.out.below hb); have HB2 := Aside0.mk (below_step HB1.out hb); clear hb)
    | ((try (refine gate_guard (by rfl) ?_; dsimp only)); go_at_call 24; (with_reducible refine (read_off _ _ _ _ HO2.out).mono ?_); rintro e w3 ⟨rfl, hb⟩; have HO3 := Aside0.mk (HO2.out.below hb); have HB3 := Aside0.mk (below_step HB2.out hb); clear hb)
    | ((try (refine gate_guard (by rfl) ?_; dsimp only)); go_at_call 25; (with_reducible refine (make_off _ _ _ _ HO3.out).mono ?_); rintro e w4 ⟨rfl, hb⟩; have HO4 := Aside0.mk (HO3.out.below hb); have HB4 := Aside0.mk (below_step HB3.out hb); clear hb)
    | ((try (refine gate_guard (by rfl) ?_; dsimp only)); go_at_call 26; (with_reducible refine (seal_off _ _ _ HO4.out).mono ?_); rintro e w5 ⟨rfl, hb⟩; have HB5 := Aside0.mk (below_step HB4.out hb); clear hb)
    | ((try (refine gate_guard (by rfl) ?_; dsimp only)); go_at_call 15; (with_reducible refine (lives_calls k _ HLV.out).mono ?_); rintro e w6 ⟨rfl, hb6⟩))
  go_ret
  exact ⟨rfl, below_step HB5.out hb6⟩
theorem nil_zero (k : Nat) (n at_ : Int) (r : Value) (w : World) (hLv : Living k) : Calls Try.prog 6 #[.int .i64 n, .int .i64 at_, r, .bool true] w fun e w' => e = .returned (.bool true) ∧ Below w.heap.size w w' := by
  have HLV := Aside0.mk hLv
  clear hLv
  have HO1 : Aside0 (Off (w.alloc (.cells #[.bool false, .int .i64 0, .int .i64 0, .map none, .int .i64 0, .map none, .map none, .slice none 0 0, .int .i64 0, .int .i64 0, .bool false] 46)) (some ⟨w.heap.size, 0, none⟩)) := ⟨Or.inr ⟨_, rfl, by rw [cell_of_row _ _ _ _ _ _ (heap_alloc_new w _)]; rfl⟩⟩
  have HB1 := Aside0.mk (below_alloc (Below.refl w.heap.size w) (.cells #[.bool false, .int .i64 0, .int .i64 0, .map none, .int .i64 0, .map none, .map none, .slice none 0 0, .int .i64 0, .int .i64 0, .bool false] 46))
  go_enter Try.func6, Try.ntmps6
  go_wp2_with (first
    | ((try (refine gate_guard (by rfl) ?_; dsimp only)); go_at_call 23; (with_reducible refine (add_off _ _ _ _ HO1.out).mono ?_); rintro e w2 ⟨rfl, hb⟩; have HO2 := Aside0.mk (HO1.out.below hb); have HB2 := Aside0.mk (below_step HB1.out hb); clear hb)
    | ((try (refine gate_guard (by rfl) ?_; dsimp only)); go_at_call 24; (with_reducible refine (read_off _ _ _ _ HO2.out).mono ?_); rintro e w3 ⟨rfl, hb⟩; have HO3 := Aside0.mk (HO2.out.below hb); have HB3 := Aside0.mk (below_step HB2.out hb); clear hb)
    | ((try (refine gate_guard (by rfl) ?_; dsimp only)); go_at_call 25; (with_reducible refine (make_off _ _ _ _ HO3.out).mono ?_); rintro e w4 ⟨rfl, hb⟩; have HO4 := Aside0.mk (HO3.out.below hb); have HB4 := Aside0.mk (below_step HB3.out hb); clear hb)
    | ((try (refine gate_guard (by rfl) ?_; dsimp only)); go_at_call 26; (with_reducible refine (seal_off _ _ _ HO4.out).mono ?_); rintro e w5 ⟨rfl, hb⟩; have HB5 := Aside0.mk (below_step HB4.out hb); clear hb)
    | ((try (refine gate_guard (by rfl) ?_; dsimp only)); go_at_call 15; (with_reducible refine (lives_calls k _ HLV.out).mono ?_); rintro e w6 ⟨rfl, hb6⟩))
  go_ret
  exact ⟨rfl, below_step HB5.out hb6⟩
end Go.Proofs.Ytjefgdggjchhbaa.PAll
