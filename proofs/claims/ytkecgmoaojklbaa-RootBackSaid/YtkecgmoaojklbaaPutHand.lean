/- page.Put, walked by hand: its variable is an array, which the print does not cover. -/
import Derived.Test.YtkecgmoaojklbaaClone
namespace Go.Proofs.Ytkecgmoaojklbaa.PAll
open Go.RowKit Go.Proofs.YtkecgmoaojklbaaVW.PrintWords Go.Proofs.YtkecgmoaojklbaaVW.PrintLast Go.Proofs.YtkecgmoaojklbaaVW.PrintMore
attribute [local go_sem] max2_int min2_int max_two min_two max_three min_three max_four min_four   -- for this text's walks alone
set_option linter.unusedVariables false
set_option linter.unusedSimpArgs false

/-! ### page_Put: function 7 -/
def page_Put.f (k : Nat) (a0 : Int) (a1 : Int) (l2 : List Int) : Option (List Int × Int) := if a0 < 0 ∨ a0 ≥ 65536 then (some (([] : List Int), 2)) else (if l2.length > 496 then (some (([] : List Int), 3)) else ((crc_Of.f k ((laidm a0 a1 l2).drop 4)).bind fun s => (some (laidp s a0 a1 l2, 0))))
theorem page_Put.mono : ∀ a0 a1 a2 k, LeO (page_Put.f k a0 a1 a2) (page_Put.f (k + 1) a0 a1 a2) := by
  intro a0 a1 a2 k
  unfold page_Put.f
  repeat' first
      | (with_reducible exact crc_Of.mono _ _)
      | (with_reducible exact LeO.refl _)
      | (with_reducible exact LeO.none _)
      | (with_reducible refine LeO.ite ?_ ?_)
      | (with_reducible refine LeO.bind ?_ (fun _ => ?_))
set_option maxHeartbeats 8000000 in
set_option maxRecDepth 100000 in
theorem page_Put.calls (k : Nat) (a0 : Int) (a1 : Int) (A2 : Option Addr) (c2 : Nat) (l2 : List Int) (r1 : List Int) (r2 : Int) (w : World) (hr2 : Kd.C (Kd.int .u8) w A2 l2.length l2) (hc2 : l2.length ≤ c2) (h : page_Put.f k a0 a1 l2 = some (r1, r2)) :
    Calls Try.prog 7 #[.int .i64 a0, .int .u8 a1, .slice A2 l2.length c2] w fun e w' => ∃ v0_ : Value, e = .returned (.tuple #[v0_, .int .i64 r2]) ∧ Kd.R (Kd.int .u8) 5 w' w.heap.size (fun _ => True) v0_ r1 ∧ Below w.heap.size w w' := by
  have HR := Aside0.mk hr2
  have HC := Aside0.mk hc2
  clear hr2 hc2
  unfold page_Put.f at h
  by_cases c1 : a0 < 0 ∨ a0 ≥ 65536
  · rw [if_pos c1] at h
    simp only [Option.some.injEq, Prod.mk.injEq] at h
    obtain ⟨rfl, rfl⟩ := h
    by_cases c3 : a0 < 0
    · clear c1
      go_enter Try.func7, Try.ntmps7
      go_wp2
      go_ret2
      exact ⟨_, rfl, Kd.R_nil _ _ _ _ _, Below.refl _ _⟩
    · have c4 : 65536 ≤ a0 := by omega
      clear c1
      go_enter Try.func7, Try.ntmps7
      go_wp2
      go_ret2
      exact ⟨_, rfl, Kd.R_nil _ _ _ _ _, Below.refl _ _⟩
  · rw [if_neg c1] at h
    have c3 : ¬ (a0 < 0) := by omega
    have c4 : ¬ (65536 ≤ a0) := by omega
    clear c1
    by_cases c5 : l2.length > 496
    · rw [if_pos c5] at h
      simp only [Option.some.injEq, Prod.mk.injEq] at h
      obtain ⟨rfl, rfl⟩ := h
      have c6 : (496 : Int) < (l2.length : Int) := by omega
      go_enter Try.func7, Try.ntmps7
      go_wp2
      go_ret2
      exact ⟨_, rfl, Kd.R_nil _ _ _ _ _, Below.refl _ _⟩
    · rw [if_neg c5] at h
      obtain ⟨s, hs, h⟩ := Option.bind_eq_some_iff.mp h
      simp only [Option.some.injEq, Prod.mk.injEq] at h
      obtain ⟨rfl, rfl⟩ := h
      have c6 : ¬ ((496 : Int) < (l2.length : Int)) := by omega
      have hll := laidp_len s a0 a1 l2 (by omega)
      have HL := Aside0.mk hll
      have HS := Aside0.mk hs
      have HN := Aside0.mk c5
      obtain ⟨P, hP⟩ : ∃ P, P = laidp s a0 a1 l2 := ⟨_, rfl⟩
      rw [← hP] at HL ⊢
      obtain ⟨B, hB⟩ : ∃ B, B = bytes P := ⟨_, rfl⟩
      have HPB := Aside0.mk hB
      have HPP := Aside0.mk hP
      have hsz : Aside0 (B.size = 512) := ⟨by rw [hB, bytes_size, HL.out]⟩
      have hone : Aside0 (B.all (·.oneCell') = true) := ⟨by rw [hB]; exact bytes_one _⟩
      obtain ⟨Z, hZ⟩ : ∃ Z, Z = bytes (List.replicate 512 0) := ⟨_, rfl⟩
      have hz := zero36
      rw [← hZ] at hz
      have hszZ : Aside0 (Z.size = 512) := ⟨by rw [hZ, bytes_size]; exact List.length_replicate⟩
      clear hll hs c5 hP hB hZ
      go_enter Try.func7, Try.ntmps7
      go_wp2_with (first
        | (go_at_call 21; refine (laid_calls k s a0 a1 A2 c2 l2 w HR.out HC.out (by have := HN.out; omega) HS.out).mono ?_; rintro e w1 ⟨he, hb1⟩; rw [← HPP.out, ← HPB.out] at he; subst he; have HB1 := Aside0.mk hb1; clear hb1)
        | (refine wpList_store_row rfl 43 (.tmp 8) (.tmp 23) rfl w1.heap.size B rfl rfl 43 Z (heap_alloc_new _ _) (by rw [hsz.out]; exact size36) (by rw [hsz.out, hszZ.out]) hone.out ?_)
        | (go_at_call 22; refine (clone_calls ⟨w1.heap.size, 0, none⟩ 512 512 P _ ?cC (by rw [HL.out]; omega)).mono ?_; (case cC => (have hb : Brow ((w1.alloc (.cells Z 43)).setRow w1.heap.size B) w1.heap.size P := ⟨43, by rw [HPB.out]; exact setRow_heap _ _ _ _ 43 (0, 0) (heap_alloc_new w1 (.cells Z 43))⟩; have hq := hb.reads 0 (Nat.zero_le _) (by rw [HL.out]; omega); rw [HL.out] at hq; exact hq)); rintro e w2 ⟨v, rfl, ho, hb2⟩; have HO := Aside0.mk ho; have HB2 := Aside0.mk hb2; clear ho hb2))
      go_ret2
      exact ⟨_, rfl, Kd.R_lower HO.out.1 (Nat.le_trans HB1.out.size (below_setRow (below_alloc (Below.refl w1.heap.size w1) (.cells Z 43)) (Nat.le_refl _) B).size), below_step (below_step HB1.out (below_setRow (below_alloc (Below.refl w1.heap.size w1) (.cells Z 43)) (Nat.le_refl _) B)) HB2.out⟩
end Go.Proofs.Ytkecgmoaojklbaa.PAll
