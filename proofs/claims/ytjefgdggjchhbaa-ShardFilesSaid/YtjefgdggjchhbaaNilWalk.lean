/- ShardNil: of no disk all is refused, walked by hand. -/
import Derived.Test.YtjefgdggjchhbaaShardLives
import Derived.BigRegion
import Derived.RegionTactic
set_option linter.unusedVariables false
set_option linter.unusedSimpArgs false
namespace Go.Proofs.Ytjefgdggjchhbaa.PAll
open Go.RowKit Go.Proofs.YtjefgdggjchhbaaVW.PrintWords Go.Proofs.YtjefgdggjchhbaaVW.PrintLast Go.Proofs.YtjefgdggjchhbaaVW.PrintMore
/-- No disk: none at all, or one that was never made. -/
def Off (w : World) (A : Option Addr) : Prop := A = none ∨ ∃ g, A = some ⟨g, 0, none⟩ ∧ w.cell? ⟨g, 0, none⟩ = some (.bool false)
theorem Off.below {w w' : World} {A : Option Addr} (h : Off w A) (hb : Below w.heap.size w w') : Off w' A := by
  rcases h with rfl | ⟨g, rfl, hc⟩
  · exact Or.inl rfl
  · refine Or.inr ⟨g, rfl, ?_⟩
    rw [← hc]
    exact hb.cell (World.block_lt_of_cell? _ _ hc)
set_option maxHeartbeats 8000000
set_option maxRecDepth 100000
theorem ready_off (w : World) (A : Option Addr) (h : Off w A) : Calls Try.prog 50 #[.pointer A] w fun e w' => e = .returned (.int .i64 1) ∧ Below w.heap.size w w' := by
  have HB := Aside0.mk (Below.refl w.heap.size w)
  rcases h with rfl | ⟨g, rfl, hc⟩
  · go_enter Try.func50, Try.ntmps50
    go_wp2
    go_ret
    exact ⟨rfl, HB.out⟩
  · go_enter Try.func50, Try.ntmps50
    go_wp2
    go_ret
    exact ⟨rfl, HB.out⟩
theorem get_off (w : World) (A : Option Addr) (v : Value) (h : Off w A) : Calls Try.prog 51 #[.pointer A, v] w fun e w' => e = .returned (.tuple #[.pointer none, .int .i64 1]) ∧ Below w.heap.size w w' := by
  have HO := Aside0.mk h
  clear h
  go_enter Try.func51, Try.ntmps51
  go_wp2_with ((try (refine gate_guard (by rfl) ?_; dsimp only)); go_at_call 50; (with_reducible refine (ready_off w A HO.out).mono ?_); rintro e w2 ⟨rfl, hb⟩; have HB := Aside0.mk hb; clear hb)
  go_ret2
  exact ⟨rfl, HB.out⟩
theorem size_off (w : World) (A : Option Addr) (v : Value) (h : Off w A) : Calls Try.prog 44 #[.pointer A, v] w fun e w' => e = .returned (.tuple #[.int .i64 0, .int .i64 1]) ∧ Below w.heap.size w w' := by
  have HO := Aside0.mk h
  clear h
  go_enter Try.func44, Try.ntmps44
  go_wp2_with ((try (refine gate_guard (by rfl) ?_; dsimp only)); go_at_call 51; (with_reducible refine (get_off w A _ HO.out).mono ?_); rintro e w2 ⟨rfl, hb⟩; have HB := Aside0.mk hb; clear hb)
  go_ret2
  exact ⟨rfl, HB.out⟩
theorem none_off (w : World) (A : Option Addr) (h : Off w A) : Calls Try.prog 43 #[.pointer A] w fun e w' => e = .returned (.bool true) ∧ Below w.heap.size w w' := by
  have HO := Aside0.mk h
  clear h
  go_enter Try.func43, Try.ntmps43
  go_wp2_with ((try (refine gate_guard (by rfl) ?_; dsimp only)); go_at_call 44; (with_reducible refine (size_off w A _ HO.out).mono ?_); rintro e w2 ⟨rfl, hb⟩; have HB := Aside0.mk hb; clear hb)
  go_ret
  exact ⟨rfl, HB.out⟩
theorem make_off (w : World) (A : Option Addr) (v n : Value) (h : Off w A) : Calls Try.prog 25 #[.pointer A, v, n] w fun e w' => e = .returned (.int .i64 1) ∧ Below w.heap.size w w' := by
  have HO := Aside0.mk h
  clear h
  go_enter Try.func25, Try.ntmps25
  go_wp2_with ((try (refine gate_guard (by rfl) ?_; dsimp only)); go_at_call 43; (with_reducible refine (none_off w A HO.out).mono ?_); rintro e w2 ⟨rfl, hb⟩; have HB := Aside0.mk hb; clear hb)
  go_ret
  exact ⟨rfl, HB.out⟩
end Go.Proofs.Ytjefgdggjchhbaa.PAll
