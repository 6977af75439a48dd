/- crc.times, walked by hand: its parameter is an array, which the print does not cover. -/
import Derived.Test.YtdcggaaaknafmaaExt
import Derived.Test.YtdcggaaaknafmaaPAllx1
import Derived.WalkKit
import Derived.Laws.Tables
namespace Go.Proofs.Ytdcggaaaknafmaa.PAll
open Go.RowKit Go.Proofs.YtdcggaaaknafmaaVW.PrintWords Go.Proofs.YtdcggaaaknafmaaVW.PrintLast Go.Proofs.YtdcggaaaknafmaaVW.PrintMore
set_option linter.unusedVariables false
set_option linter.unusedSimpArgs false

/-- A row of numbers, as cells. -/
def words (l : List Int) : Array Value := (l.map (Value.int .u32)).toArray
theorem words_size (l : List Int) : (words l).size = l.length := by simp [words]
theorem words_one (l : List Int) : (words l).all (·.oneCell') = true := by
  rw [Array.all_eq_true_iff_forall_mem]
  intro x hx
  unfold words at hx
  simp only [List.mem_toArray, List.mem_map] at hx
  obtain ⟨y, _, rfl⟩ := hx
  rfl
/-- A block of such. -/
def Wrow (w : World) (g : Nat) (l : List Int) : Prop := ∃ t, w.heap[g]? = some (.cells (words l) t (0, 0))
theorem Wrow.cell {w : World} {g : Nat} {l : List Int} (h : Wrow w g l) {i : Nat} (hi : i < l.length) : w.cell? ⟨g, i, none⟩ = some (.int .u32 (rd l (i : Int))) := by
  obtain ⟨t, h⟩ := h
  rw [cell_of_row w g i _ t (0, 0) h]
  unfold rd
  rw [Int.toNat_natCast]
  simp [words, hi]

/-- What a row of 32 numbers makes of a number, as far as j of them go. -/
def tm (ms : List Int) (r : Int) : Nat → Int
  | 0 => 0
  | j + 1 => bits .xor .u32 (tm ms r j) (bits .and .u32 (rd ms (j : Int)) (-bits .and .u32 (r / 2 ^ j) 1 % 4294967296))
set_option maxHeartbeats 8000000 in
set_option maxRecDepth 100000 in
theorem crc_times.calls (ms : List Int) (r : Int) (w : World) (hms : ms.length = 32) :
    Calls Try.prog 37 #[.agg (words ms), .int .u32 r] w fun e w' => e = .returned (.int .u32 (tm ms r 32)) ∧ Below w.heap.size w w' := by
  go_enter Try.func37, Try.ntmps37
  go_wp2
  go_loopw [5, 7] (fun v i wr => ∃ j : Nat, j ≤ 32 ∧ v = .int .u32 (tm ms r j) ∧ i = .int .i64 j ∧ Aside0 (Wrow wr w.heap.size ms) ∧ Aside0 (Below w.heap.size w wr)) (fun _ i _ => 32 - (intOf i).toNat)
  case atStart => exact ⟨0, Nat.zero_le _, rfl, rfl, ⟨60, heap_alloc_new _ _⟩, ⟨(Below.refl _ w).alloc (Nat.le_refl _) _⟩⟩
  case round =>
    obtain ⟨j, hj, rfl, rfl, hW, hB⟩ := hrel
    by_cases hjl : j < 32
    · have cj := hW.out.cell (i := j) (by omega)
      have q1 : (0 : Int) ≤ j := by omega
      have q2 : (j : Int) < 32 := by omega
      go_wp2
      exact ⟨⟨j + 1, by omega, rfl, by first | rfl | go_num, hW, hB⟩, by simp [intOf]; omega⟩
    · have hj32 : j = 32 := by omega
      subst hj32
      go_wp2
      go_ret
      exact ⟨rfl, hB.out⟩
end Go.Proofs.Ytdcggaaaknafmaa.PAll
