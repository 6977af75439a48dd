-- PRINTED by print.py (a twelfth state) out of the translation. Not trusted: Lean checks it.
import Derived.Test.YtkecgmoaojklbaaPAllx0
namespace Go.Proofs.Ytkecgmoaojklbaa.PAll
open Go.RowKit Go.Proofs.YtkecgmoaojklbaaVW.PrintWords Go.Proofs.YtkecgmoaojklbaaVW.PrintLast Go.Proofs.YtkecgmoaojklbaaVW.PrintMore
attribute [local go_sem] max2_int min2_int max_two min_two max_three min_three max_four min_four   -- for this text's walks alone
set_option linter.unusedVariables false
set_option linter.unusedSimpArgs false

/-! ### stookref16_May: function 26 -/
def stookref16_May.j0 : Nat → Bool → Int → Int → Int → Int → Int → Int → Int → Option (Bool)
  | 0, _, _, _, _, _, _, _, _ => none
  | k + 1, x25, x231000, x231001, x231002, x231003, x231004, x231005, x231006 => if x25 = true then (some false) else (if x231001 = 0 then (if x231004 ≥ 1 then (if x231004 ≤ 4294967296 then (if x231005 ≥ 0 then (if x231005 ≤ 2147483647 then (if x231006 ≥ 0 then (some (decide (x231006 ≤ 1048576))) else (some false)) else (some false)) else (some false)) else (some false)) else (some false)) else (if x231001 < 2 then (some false) else (if x231001 > (wrap64 (x231002 - 1)) then (some false) else (if x231004 ≥ 1 then (if x231004 ≤ 4294967296 then (if x231005 ≥ 0 then (if x231005 ≤ 2147483647 then (if x231006 ≥ 0 then (some (decide (x231006 ≤ 1048576))) else (some false)) else (some false)) else (some false)) else (some false)) else (some false)))))
def stookref16_May.f (k : Nat) (a0_0 : Int) (a0_1 : Int) (a0_2 : Int) (a0_3 : Int) (a0_4 : Int) (a0_5 : Int) (a0_6 : Int) : Option (Bool) := if a0_0 < 1 then (stookref16_May.j0 k true a0_0 a0_1 a0_2 a0_3 a0_4 a0_5 a0_6) else (if a0_0 > 4611686018427387904 then (stookref16_May.j0 k true a0_0 a0_1 a0_2 a0_3 a0_4 a0_5 a0_6) else (if a0_2 < 2 then (stookref16_May.j0 k true a0_0 a0_1 a0_2 a0_3 a0_4 a0_5 a0_6) else (if a0_2 > 65536 then (stookref16_May.j0 k true a0_0 a0_1 a0_2 a0_3 a0_4 a0_5 a0_6) else (stookref16_May.j0 k (decide (a0_3 > 4611686018427387904)) a0_0 a0_1 a0_2 a0_3 a0_4 a0_5 a0_6))))
theorem stookref16_May.mono_l : ∀ k, (∀ y0 y1 y2 y3 y4 y5 y6 y7, LeO (stookref16_May.j0 k y0 y1 y2 y3 y4 y5 y6 y7) (stookref16_May.j0 (k + 1) y0 y1 y2 y3 y4 y5 y6 y7))
  | 0 => fun _ _ _ _ _ _ _ _ r h => by simp [stookref16_May.j0] at h
  | k + 1 => by
    have ih0 := stookref16_May.mono_l k
    · intro y0 y1 y2 y3 y4 y5 y6 y7
      unfold stookref16_May.j0
      repeat' first
      | (with_reducible exact ih0 _ _ _ _ _ _ _ _)
      | (with_reducible exact LeO.refl _)
      | (with_reducible exact LeO.none _)
      | (with_reducible refine LeO.ite ?_ ?_)
      | (with_reducible refine LeO.bind ?_ (fun _ => ?_))
      | exact ih0 _ _ _ _ _ _ _ _
      | exact LeO.none _
      | refine LeO.ite ?_ ?_
      | refine LeO.bind ?_ (fun _ => ?_)
theorem stookref16_May.mono : ∀ a0 a1 a2 a3 a4 a5 a6 k, LeO (stookref16_May.f k a0 a1 a2 a3 a4 a5 a6) (stookref16_May.f (k + 1) a0 a1 a2 a3 a4 a5 a6) := by
  intro a0 a1 a2 a3 a4 a5 a6 k
  have ih0 := stookref16_May.mono_l k
  unfold stookref16_May.f
  repeat' first
      | (with_reducible exact ih0 _ _ _ _ _ _ _ _)
      | (with_reducible exact LeO.refl _)
      | (with_reducible exact LeO.none _)
      | (with_reducible refine LeO.ite ?_ ?_)
      | (with_reducible refine LeO.bind ?_ (fun _ => ?_))
      | exact ih0 _ _ _ _ _ _ _ _
      | exact LeO.none _
      | refine LeO.ite ?_ ?_
      | refine LeO.bind ?_ (fun _ => ?_)
set_option maxHeartbeats 8000000 in
set_option maxRecDepth 100000 in
theorem stookref16_May.calls (k : Nat) (a0_0 : Int) (a0_1 : Int) (a0_2 : Int) (a0_3 : Int) (a0_4 : Int) (a0_5 : Int) (a0_6 : Int) (r : Bool) (w : World) (h : stookref16_May.f k a0_0 a0_1 a0_2 a0_3 a0_4 a0_5 a0_6 = some r) :
    Calls Try.prog 26 #[.agg #[.int .u64 a0_0, .int .i64 a0_1, .int .i64 a0_2, .int .u64 a0_3, .int .u64 a0_4, .int .i64 a0_5, .int .i64 a0_6]] w fun e w' => e = .returned (.bool r) ∧ Below w.heap.size w w' := by
  have hu34 := Try.underlying34
  have HB := Aside0.mk (Below.refl w.heap.size w)
  have H : (if a0_0 < 1 then (stookref16_May.j0 k true a0_0 a0_1 a0_2 a0_3 a0_4 a0_5 a0_6) else (if a0_0 > 4611686018427387904 then (stookref16_May.j0 k true a0_0 a0_1 a0_2 a0_3 a0_4 a0_5 a0_6) else (if a0_2 < 2 then (stookref16_May.j0 k true a0_0 a0_1 a0_2 a0_3 a0_4 a0_5 a0_6) else (if a0_2 > 65536 then (stookref16_May.j0 k true a0_0 a0_1 a0_2 a0_3 a0_4 a0_5 a0_6) else (stookref16_May.j0 k (decide (a0_3 > 4611686018427387904)) a0_0 a0_1 a0_2 a0_3 a0_4 a0_5 a0_6))))) = some r := h
  clear h
  have HC2 := Aside0.mk H
  clear H
  go_enter Try.func26, Try.ntmps26
  go_upto_region 1 with (first | ((with_reducible refine gate_dst (N := 1) rfl ?_); refine box_event ?hg (N := 1) ?hd (cs := #[.int .u64 a0_0, .int .i64 a0_1, .int .i64 a0_2, .int .u64 a0_3, .int .u64 a0_4, .int .i64 a0_5, .int .i64 a0_6]) (t := 34) ?hr ?_; (case hd => rfl); (case hg => rfl); (case hr => first | (go_simp; done) | (go_simp; rfl)); intro gb230 hg w3 hbox hb; have n0_ := Aside0.mk (below_step (by repeat (first | (with_reducible first | exact HB.out | apply below_alloc | apply pw_below_drewN | apply below_drew1) | exact HB.out)) hb); have n1_ := Aside0.mk (hbox); have n2_ := Aside0.mk ((by rw [hg]; exact (below_size (by repeat (first | (with_reducible first | exact HB.out | apply below_alloc | apply pw_below_drewN | apply below_drew1) | exact HB.out))) : w.heap.size ≤ gb230)); have n3_ := Aside0.mk ((by rw [hg]; exact (below_size (by repeat (first | (with_reducible first | exact HB.out | apply below_alloc | apply pw_below_drewN | apply below_drew1) | exact HB.out))) : w.heap.size ≤ gb230)); clear HB; have HB := n0_; have BK230 := n1_; have GW230 := n2_; have GE230 := n3_; clear n0_ n1_ n2_ n3_; clear hb hbox hg))
  (try simp only [Act.put, List.setIfInBounds_toArray, List.set_cons_zero, List.set_cons_succ])
  go_cut [25] (fun v25 wc => ∃ (kq : Nat) (x25_1 : Bool), v25 = .bool x25_1 ∧ Aside0 (stookref16_May.j0 kq x25_1 a0_0 a0_1 a0_2 a0_3 a0_4 a0_5 a0_6 = some r) ∧ Aside0 (kq ≤ k) ∧ Aside0 (wc.heap[gb230]? = some (.cells #[.int .u64 a0_0, .int .i64 a0_1, .int .i64 a0_2, .int .u64 a0_3, .int .u64 a0_4, .int .i64 a0_5, .int .i64 a0_6] 34 (0, 0))) ∧ Aside0 (Below w.heap.size w wc))
  case first =>
    have H := HC2.out
    clear HC2
    by_cases c4 : a0_0 < 1
    · rw [if_pos c4] at H
      have c4b0 : decide (a0_0 < 1) = true := decide_eq_true c4
      clear c4
      (first | rw [c4b0] | (simp only [i64_w, i32_w]; rw [c4b0]) | skip)
      have H' := Aside0.mk H
      clear H
      have hcz5_0 : w3.cell? ⟨gb230, 0, none⟩ = some (.int .u64 a0_0) := (blk_cell BK230.out 0).trans rfl
      have hcz5_1 : w3.cell? ⟨gb230, 1, none⟩ = some (.int .i64 a0_1) := (blk_cell BK230.out 1).trans rfl
      have hcz5_2 : w3.cell? ⟨gb230, 2, none⟩ = some (.int .i64 a0_2) := (blk_cell BK230.out 2).trans rfl
      have hcz5_3 : w3.cell? ⟨gb230, 3, none⟩ = some (.int .u64 a0_3) := (blk_cell BK230.out 3).trans rfl
      have hcz5_4 : w3.cell? ⟨gb230, 4, none⟩ = some (.int .u64 a0_4) := (blk_cell BK230.out 4).trans rfl
      have hcz5_5 : w3.cell? ⟨gb230, 5, none⟩ = some (.int .i64 a0_5) := (blk_cell BK230.out 5).trans rfl
      have hcz5_6 : w3.cell? ⟨gb230, 6, none⟩ = some (.int .i64 a0_6) := (blk_cell BK230.out 6).trans rfl
      have hfz5_0 := blk_frozen BK230.out 0
      have hfz5_1 := blk_frozen BK230.out 1
      have hfz5_2 := blk_frozen BK230.out 2
      have hfz5_3 := blk_frozen BK230.out 3
      have hfz5_4 := blk_frozen BK230.out 4
      have hfz5_5 := blk_frozen BK230.out 5
      have hfz5_6 := blk_frozen BK230.out 6
      go_wp2
      go_meet
      case rel => exact ⟨_, (true), (by first | rfl | (simp; done) | (simp [*]; done)), H', ⟨by first | omega | exact Nat.le_refl _⟩, ⟨by (with_reducible repeat (first | refine blk_drewN ?_ _ | refine blk_drew ?_ | refine blk_alloc ?_ _)); exact BK230.out⟩, ⟨by repeat (first | (with_reducible first | exact HB.out | apply below_alloc | apply pw_below_drewN | apply below_drew1 | refine below_set ?_ GE230.out) | exact HB.out)⟩⟩
    · rw [if_neg c4] at H
      have c4b0 : decide (a0_0 < 1) = false := decide_eq_false c4
      clear c4
      (first | rw [c4b0] | (simp only [i64_w, i32_w]; rw [c4b0]) | skip)
      by_cases c6 : a0_0 > 4611686018427387904
      · rw [if_pos c6] at H
        have c6b0 : decide (4611686018427387904 < a0_0) = true := decide_eq_true c6
        clear c6
        have H' := Aside0.mk H
        clear H
        have hcz7_0 : w3.cell? ⟨gb230, 0, none⟩ = some (.int .u64 a0_0) := (blk_cell BK230.out 0).trans rfl
        have hcz7_1 : w3.cell? ⟨gb230, 1, none⟩ = some (.int .i64 a0_1) := (blk_cell BK230.out 1).trans rfl
        have hcz7_2 : w3.cell? ⟨gb230, 2, none⟩ = some (.int .i64 a0_2) := (blk_cell BK230.out 2).trans rfl
        have hcz7_3 : w3.cell? ⟨gb230, 3, none⟩ = some (.int .u64 a0_3) := (blk_cell BK230.out 3).trans rfl
        have hcz7_4 : w3.cell? ⟨gb230, 4, none⟩ = some (.int .u64 a0_4) := (blk_cell BK230.out 4).trans rfl
        have hcz7_5 : w3.cell? ⟨gb230, 5, none⟩ = some (.int .i64 a0_5) := (blk_cell BK230.out 5).trans rfl
        have hcz7_6 : w3.cell? ⟨gb230, 6, none⟩ = some (.int .i64 a0_6) := (blk_cell BK230.out 6).trans rfl
        have hfz7_0 := blk_frozen BK230.out 0
        have hfz7_1 := blk_frozen BK230.out 1
        have hfz7_2 := blk_frozen BK230.out 2
        have hfz7_3 := blk_frozen BK230.out 3
        have hfz7_4 := blk_frozen BK230.out 4
        have hfz7_5 := blk_frozen BK230.out 5
        have hfz7_6 := blk_frozen BK230.out 6
        go_wp2
        go_meet
        case rel => exact ⟨_, (true), (by first | rfl | (simp; done) | (simp [*]; done)), H', ⟨by first | omega | exact Nat.le_refl _⟩, ⟨by (with_reducible repeat (first | refine blk_drewN ?_ _ | refine blk_drew ?_ | refine blk_alloc ?_ _)); exact BK230.out⟩, ⟨by repeat (first | (with_reducible first | exact HB.out | apply below_alloc | apply pw_below_drewN | apply below_drew1 | refine below_set ?_ GE230.out) | exact HB.out)⟩⟩
      · rw [if_neg c6] at H
        have c6b0 : decide (4611686018427387904 < a0_0) = false := decide_eq_false c6
        clear c6
        by_cases c8 : a0_2 < 2
        · rw [if_pos c8] at H
          have c8b0 : decide (a0_2 < 2) = true := decide_eq_true c8
          clear c8
          have H' := Aside0.mk H
          clear H
          have hcz9_0 : w3.cell? ⟨gb230, 0, none⟩ = some (.int .u64 a0_0) := (blk_cell BK230.out 0).trans rfl
          have hcz9_1 : w3.cell? ⟨gb230, 1, none⟩ = some (.int .i64 a0_1) := (blk_cell BK230.out 1).trans rfl
          have hcz9_2 : w3.cell? ⟨gb230, 2, none⟩ = some (.int .i64 a0_2) := (blk_cell BK230.out 2).trans rfl
          have hcz9_3 : w3.cell? ⟨gb230, 3, none⟩ = some (.int .u64 a0_3) := (blk_cell BK230.out 3).trans rfl
          have hcz9_4 : w3.cell? ⟨gb230, 4, none⟩ = some (.int .u64 a0_4) := (blk_cell BK230.out 4).trans rfl
          have hcz9_5 : w3.cell? ⟨gb230, 5, none⟩ = some (.int .i64 a0_5) := (blk_cell BK230.out 5).trans rfl
          have hcz9_6 : w3.cell? ⟨gb230, 6, none⟩ = some (.int .i64 a0_6) := (blk_cell BK230.out 6).trans rfl
          have hfz9_0 := blk_frozen BK230.out 0
          have hfz9_1 := blk_frozen BK230.out 1
          have hfz9_2 := blk_frozen BK230.out 2
          have hfz9_3 := blk_frozen BK230.out 3
          have hfz9_4 := blk_frozen BK230.out 4
          have hfz9_5 := blk_frozen BK230.out 5
          have hfz9_6 := blk_frozen BK230.out 6
          go_wp2
          go_meet
          case rel => exact ⟨_, (true), (by first | rfl | (simp; done) | (simp [*]; done)), H', ⟨by first | omega | exact Nat.le_refl _⟩, ⟨by (with_reducible repeat (first | refine blk_drewN ?_ _ | refine blk_drew ?_ | refine blk_alloc ?_ _)); exact BK230.out⟩, ⟨by repeat (first | (with_reducible first | exact HB.out | apply below_alloc | apply pw_below_drewN | apply below_drew1 | refine below_set ?_ GE230.out) | exact HB.out)⟩⟩
        · rw [if_neg c8] at H
          have c8b0 : decide (a0_2 < 2) = false := decide_eq_false c8
          clear c8
          by_cases c10 : a0_2 > 65536
          · rw [if_pos c10] at H
            have c10b0 : decide (65536 < a0_2) = true := decide_eq_true c10
            clear c10
            have H' := Aside0.mk H
            clear H
            have hcz11_0 : w3.cell? ⟨gb230, 0, none⟩ = some (.int .u64 a0_0) := (blk_cell BK230.out 0).trans rfl
            have hcz11_1 : w3.cell? ⟨gb230, 1, none⟩ = some (.int .i64 a0_1) := (blk_cell BK230.out 1).trans rfl
            have hcz11_2 : w3.cell? ⟨gb230, 2, none⟩ = some (.int .i64 a0_2) := (blk_cell BK230.out 2).trans rfl
            have hcz11_3 : w3.cell? ⟨gb230, 3, none⟩ = some (.int .u64 a0_3) := (blk_cell BK230.out 3).trans rfl
            have hcz11_4 : w3.cell? ⟨gb230, 4, none⟩ = some (.int .u64 a0_4) := (blk_cell BK230.out 4).trans rfl
            have hcz11_5 : w3.cell? ⟨gb230, 5, none⟩ = some (.int .i64 a0_5) := (blk_cell BK230.out 5).trans rfl
            have hcz11_6 : w3.cell? ⟨gb230, 6, none⟩ = some (.int .i64 a0_6) := (blk_cell BK230.out 6).trans rfl
            have hfz11_0 := blk_frozen BK230.out 0
            have hfz11_1 := blk_frozen BK230.out 1
            have hfz11_2 := blk_frozen BK230.out 2
            have hfz11_3 := blk_frozen BK230.out 3
            have hfz11_4 := blk_frozen BK230.out 4
            have hfz11_5 := blk_frozen BK230.out 5
            have hfz11_6 := blk_frozen BK230.out 6
            go_wp2
            go_meet
            case rel => exact ⟨_, (true), (by first | rfl | (simp; done) | (simp [*]; done)), H', ⟨by first | omega | exact Nat.le_refl _⟩, ⟨by (with_reducible repeat (first | refine blk_drewN ?_ _ | refine blk_drew ?_ | refine blk_alloc ?_ _)); exact BK230.out⟩, ⟨by repeat (first | (with_reducible first | exact HB.out | apply below_alloc | apply pw_below_drewN | apply below_drew1 | refine below_set ?_ GE230.out) | exact HB.out)⟩⟩
          · rw [if_neg c10] at H
            have c10b0 : decide (65536 < a0_2) = false := decide_eq_false c10
            clear c10
            have H' := Aside0.mk H
            clear H
            have hcz12_0 : w3.cell? ⟨gb230, 0, none⟩ = some (.int .u64 a0_0) := (blk_cell BK230.out 0).trans rfl
            have hcz12_1 : w3.cell? ⟨gb230, 1, none⟩ = some (.int .i64 a0_1) := (blk_cell BK230.out 1).trans rfl
            have hcz12_2 : w3.cell? ⟨gb230, 2, none⟩ = some (.int .i64 a0_2) := (blk_cell BK230.out 2).trans rfl
            have hcz12_3 : w3.cell? ⟨gb230, 3, none⟩ = some (.int .u64 a0_3) := (blk_cell BK230.out 3).trans rfl
            have hcz12_4 : w3.cell? ⟨gb230, 4, none⟩ = some (.int .u64 a0_4) := (blk_cell BK230.out 4).trans rfl
            have hcz12_5 : w3.cell? ⟨gb230, 5, none⟩ = some (.int .i64 a0_5) := (blk_cell BK230.out 5).trans rfl
            have hcz12_6 : w3.cell? ⟨gb230, 6, none⟩ = some (.int .i64 a0_6) := (blk_cell BK230.out 6).trans rfl
            have hfz12_0 := blk_frozen BK230.out 0
            have hfz12_1 := blk_frozen BK230.out 1
            have hfz12_2 := blk_frozen BK230.out 2
            have hfz12_3 := blk_frozen BK230.out 3
            have hfz12_4 := blk_frozen BK230.out 4
            have hfz12_5 := blk_frozen BK230.out 5
            have hfz12_6 := blk_frozen BK230.out 6
            go_wp2
            go_meet
            case rel => exact ⟨_, (decide (a0_3 > 4611686018427387904)), (by first | rfl | (simp; done) | (simp [*]; done)), H', ⟨by first | omega | exact Nat.le_refl _⟩, ⟨by (with_reducible repeat (first | refine blk_drewN ?_ _ | refine blk_drew ?_ | refine blk_alloc ?_ _)); exact BK230.out⟩, ⟨by repeat (first | (with_reducible first | exact HB.out | apply below_alloc | apply pw_below_drewN | apply below_drew1 | refine below_set ?_ GE230.out) | exact HB.out)⟩⟩
  case rest =>
    clear HC2
    try clear c1
    try clear c2
    try clear p2
    try clear c4
    try clear c4b0
    try clear c6
    try clear c6b0
    try clear c8
    try clear c8b0
    try clear c10
    try clear c10b0
    try clear hcz11_0
    try clear hcz11_1
    try clear hcz11_2
    try clear hcz11_3
    try clear hcz11_4
    try clear hcz11_5
    try clear hcz11_6
    try clear hcz12_0
    try clear hcz12_1
    try clear hcz12_2
    try clear hcz12_3
    try clear hcz12_4
    try clear hcz12_5
    try clear hcz12_6
    try clear hcz5_0
    try clear hcz5_1
    try clear hcz5_2
    try clear hcz5_3
    try clear hcz5_4
    try clear hcz5_5
    try clear hcz5_6
    try clear hcz7_0
    try clear hcz7_1
    try clear hcz7_2
    try clear hcz7_3
    try clear hcz7_4
    try clear hcz7_5
    try clear hcz7_6
    try clear hcz9_0
    try clear hcz9_1
    try clear hcz9_2
    try clear hcz9_3
    try clear hcz9_4
    try clear hcz9_5
    try clear hcz9_6
    try clear hfz11_0
    try clear hfz11_1
    try clear hfz11_2
    try clear hfz11_3
    try clear hfz11_4
    try clear hfz11_5
    try clear hfz11_6
    try clear hfz12_0
    try clear hfz12_1
    try clear hfz12_2
    try clear hfz12_3
    try clear hfz12_4
    try clear hfz12_5
    try clear hfz12_6
    try clear hfz5_0
    try clear hfz5_1
    try clear hfz5_2
    try clear hfz5_3
    try clear hfz5_4
    try clear hfz5_5
    try clear hfz5_6
    try clear hfz7_0
    try clear hfz7_1
    try clear hfz7_2
    try clear hfz7_3
    try clear hfz7_4
    try clear hfz7_5
    try clear hfz7_6
    try clear hfz9_0
    try clear hfz9_1
    try clear hfz9_2
    try clear hfz9_3
    try clear hfz9_4
    try clear hfz9_5
    try clear hfz9_6
    obtain ⟨kq, x25_1, rfl, HA, HJ1, BK230, HB⟩ := hcut
    cases kq with
    | zero => exact absurd HA.out (by simp [stookref16_May.j0])
    | succ kj1 =>
      have H := HA.out
      clear HA
      simp only [stookref16_May.j0] at H
      by_cases c13 : x25_1 = true
      · subst c13
        have H1 : (some false) = some r := by rw [if_pos rfl] at H; exact H
        clear H
        have H := H1
        clear H1
        obtain rfl := Option.some.inj H
        go_wp2
        go_ret
        exact ⟨by first | rfl | (simp [errW_none, errW_some] <;> rfl) | (simp [*, errW_none, errW_some] <;> rfl), by repeat (first | (with_reducible first | exact HB.out | apply below_alloc | apply pw_below_drewN | apply below_drew1 | refine below_set ?_ GE230.out) | exact HB.out)⟩
      · replace c13 := Bool.eq_false_iff.mpr c13
        subst c13
        have H1 : (if a0_1 = 0 then (if a0_4 ≥ 1 then (if a0_4 ≤ 4294967296 then (if a0_5 ≥ 0 then (if a0_5 ≤ 2147483647 then (if a0_6 ≥ 0 then (some (decide (a0_6 ≤ 1048576))) else (some false)) else (some false)) else (some false)) else (some false)) else (some false)) else (if a0_1 < 2 then (some false) else (if a0_1 > (wrap64 (a0_2 - 1)) then (some false) else (if a0_4 ≥ 1 then (if a0_4 ≤ 4294967296 then (if a0_5 ≥ 0 then (if a0_5 ≤ 2147483647 then (if a0_6 ≥ 0 then (some (decide (a0_6 ≤ 1048576))) else (some false)) else (some false)) else (some false)) else (some false)) else (some false))))) = some r := by rw [if_neg (show ¬ (false = true) by decide)] at H; exact H
        clear H
        have H := H1
        clear H1
        by_cases c14 : a0_1 = 0
        · rw [if_pos c14] at H
          have c14b0 : (a0_1 == 0) = true := beq_iff_eq.mpr c14
          have c14b1 : (a0_1 != 0) = false := bne_eq_false_iff_eq.mpr c14
          clear c14
          by_cases c15 : a0_4 ≥ 1
          · rw [if_pos c15] at H
            have c15b0 : decide (1 ≤ a0_4) = true := decide_eq_true c15
            clear c15
            by_cases c16 : a0_4 ≤ 4294967296
            · rw [if_pos c16] at H
              have c16b0 : decide (a0_4 ≤ 4294967296) = true := decide_eq_true c16
              clear c16
              by_cases c17 : a0_5 ≥ 0
              · rw [if_pos c17] at H
                have c17b0 : decide (0 ≤ a0_5) = true := decide_eq_true c17
                clear c17
                by_cases c18 : a0_5 ≤ 2147483647
                · rw [if_pos c18] at H
                  have c18b0 : decide (a0_5 ≤ 2147483647) = true := decide_eq_true c18
                  clear c18
                  by_cases c19 : a0_6 ≥ 0
                  · rw [if_pos c19] at H
                    have c19b0 : decide (0 ≤ a0_6) = true := decide_eq_true c19
                    clear c19
                    obtain rfl := Option.some.inj H
                    have hcz20_0 : wc.cell? ⟨gb230, 0, none⟩ = some (.int .u64 a0_0) := (blk_cell BK230.out 0).trans rfl
                    have hcz20_1 : wc.cell? ⟨gb230, 1, none⟩ = some (.int .i64 a0_1) := (blk_cell BK230.out 1).trans rfl
                    have hcz20_2 : wc.cell? ⟨gb230, 2, none⟩ = some (.int .i64 a0_2) := (blk_cell BK230.out 2).trans rfl
                    have hcz20_3 : wc.cell? ⟨gb230, 3, none⟩ = some (.int .u64 a0_3) := (blk_cell BK230.out 3).trans rfl
                    have hcz20_4 : wc.cell? ⟨gb230, 4, none⟩ = some (.int .u64 a0_4) := (blk_cell BK230.out 4).trans rfl
                    have hcz20_5 : wc.cell? ⟨gb230, 5, none⟩ = some (.int .i64 a0_5) := (blk_cell BK230.out 5).trans rfl
                    have hcz20_6 : wc.cell? ⟨gb230, 6, none⟩ = some (.int .i64 a0_6) := (blk_cell BK230.out 6).trans rfl
                    have hfz20_0 := blk_frozen BK230.out 0
                    have hfz20_1 := blk_frozen BK230.out 1
                    have hfz20_2 := blk_frozen BK230.out 2
                    have hfz20_3 := blk_frozen BK230.out 3
                    have hfz20_4 := blk_frozen BK230.out 4
                    have hfz20_5 := blk_frozen BK230.out 5
                    have hfz20_6 := blk_frozen BK230.out 6
                    go_wp2
                    go_ret
                    exact ⟨by first | rfl | (simp [errW_none, errW_some] <;> rfl) | (simp [*, errW_none, errW_some] <;> rfl), by repeat (first | (with_reducible first | exact HB.out | apply below_alloc | apply pw_below_drewN | apply below_drew1 | refine below_set ?_ GE230.out) | exact HB.out)⟩
                  · rw [if_neg c19] at H
                    have c19b0 : decide (0 ≤ a0_6) = false := decide_eq_false c19
                    clear c19
                    obtain rfl := Option.some.inj H
                    have hcz21_0 : wc.cell? ⟨gb230, 0, none⟩ = some (.int .u64 a0_0) := (blk_cell BK230.out 0).trans rfl
                    have hcz21_1 : wc.cell? ⟨gb230, 1, none⟩ = some (.int .i64 a0_1) := (blk_cell BK230.out 1).trans rfl
                    have hcz21_2 : wc.cell? ⟨gb230, 2, none⟩ = some (.int .i64 a0_2) := (blk_cell BK230.out 2).trans rfl
                    have hcz21_3 : wc.cell? ⟨gb230, 3, none⟩ = some (.int .u64 a0_3) := (blk_cell BK230.out 3).trans rfl
                    have hcz21_4 : wc.cell? ⟨gb230, 4, none⟩ = some (.int .u64 a0_4) := (blk_cell BK230.out 4).trans rfl
                    have hcz21_5 : wc.cell? ⟨gb230, 5, none⟩ = some (.int .i64 a0_5) := (blk_cell BK230.out 5).trans rfl
                    have hcz21_6 : wc.cell? ⟨gb230, 6, none⟩ = some (.int .i64 a0_6) := (blk_cell BK230.out 6).trans rfl
                    have hfz21_0 := blk_frozen BK230.out 0
                    have hfz21_1 := blk_frozen BK230.out 1
                    have hfz21_2 := blk_frozen BK230.out 2
                    have hfz21_3 := blk_frozen BK230.out 3
                    have hfz21_4 := blk_frozen BK230.out 4
                    have hfz21_5 := blk_frozen BK230.out 5
                    have hfz21_6 := blk_frozen BK230.out 6
                    go_wp2
                    go_ret
                    exact ⟨by first | rfl | (simp [errW_none, errW_some] <;> rfl) | (simp [*, errW_none, errW_some] <;> rfl), by repeat (first | (with_reducible first | exact HB.out | apply below_alloc | apply pw_below_drewN | apply below_drew1 | refine below_set ?_ GE230.out) | exact HB.out)⟩
                · rw [if_neg c18] at H
                  have c18b0 : decide (a0_5 ≤ 2147483647) = false := decide_eq_false c18
                  clear c18
                  obtain rfl := Option.some.inj H
                  have hcz22_0 : wc.cell? ⟨gb230, 0, none⟩ = some (.int .u64 a0_0) := (blk_cell BK230.out 0).trans rfl
                  have hcz22_1 : wc.cell? ⟨gb230, 1, none⟩ = some (.int .i64 a0_1) := (blk_cell BK230.out 1).trans rfl
                  have hcz22_2 : wc.cell? ⟨gb230, 2, none⟩ = some (.int .i64 a0_2) := (blk_cell BK230.out 2).trans rfl
                  have hcz22_3 : wc.cell? ⟨gb230, 3, none⟩ = some (.int .u64 a0_3) := (blk_cell BK230.out 3).trans rfl
                  have hcz22_4 : wc.cell? ⟨gb230, 4, none⟩ = some (.int .u64 a0_4) := (blk_cell BK230.out 4).trans rfl
                  have hcz22_5 : wc.cell? ⟨gb230, 5, none⟩ = some (.int .i64 a0_5) := (blk_cell BK230.out 5).trans rfl
                  have hcz22_6 : wc.cell? ⟨gb230, 6, none⟩ = some (.int .i64 a0_6) := (blk_cell BK230.out 6).trans rfl
                  have hfz22_0 := blk_frozen BK230.out 0
                  have hfz22_1 := blk_frozen BK230.out 1
                  have hfz22_2 := blk_frozen BK230.out 2
                  have hfz22_3 := blk_frozen BK230.out 3
                  have hfz22_4 := blk_frozen BK230.out 4
                  have hfz22_5 := blk_frozen BK230.out 5
                  have hfz22_6 := blk_frozen BK230.out 6
                  go_wp2
                  go_ret
                  exact ⟨by first | rfl | (simp [errW_none, errW_some] <;> rfl) | (simp [*, errW_none, errW_some] <;> rfl), by repeat (first | (with_reducible first | exact HB.out | apply below_alloc | apply pw_below_drewN | apply below_drew1 | refine below_set ?_ GE230.out) | exact HB.out)⟩
              · rw [if_neg c17] at H
                have c17b0 : decide (0 ≤ a0_5) = false := decide_eq_false c17
                clear c17
                obtain rfl := Option.some.inj H
                have hcz23_0 : wc.cell? ⟨gb230, 0, none⟩ = some (.int .u64 a0_0) := (blk_cell BK230.out 0).trans rfl
                have hcz23_1 : wc.cell? ⟨gb230, 1, none⟩ = some (.int .i64 a0_1) := (blk_cell BK230.out 1).trans rfl
                have hcz23_2 : wc.cell? ⟨gb230, 2, none⟩ = some (.int .i64 a0_2) := (blk_cell BK230.out 2).trans rfl
                have hcz23_3 : wc.cell? ⟨gb230, 3, none⟩ = some (.int .u64 a0_3) := (blk_cell BK230.out 3).trans rfl
                have hcz23_4 : wc.cell? ⟨gb230, 4, none⟩ = some (.int .u64 a0_4) := (blk_cell BK230.out 4).trans rfl
                have hcz23_5 : wc.cell? ⟨gb230, 5, none⟩ = some (.int .i64 a0_5) := (blk_cell BK230.out 5).trans rfl
                have hcz23_6 : wc.cell? ⟨gb230, 6, none⟩ = some (.int .i64 a0_6) := (blk_cell BK230.out 6).trans rfl
                have hfz23_0 := blk_frozen BK230.out 0
                have hfz23_1 := blk_frozen BK230.out 1
                have hfz23_2 := blk_frozen BK230.out 2
                have hfz23_3 := blk_frozen BK230.out 3
                have hfz23_4 := blk_frozen BK230.out 4
                have hfz23_5 := blk_frozen BK230.out 5
                have hfz23_6 := blk_frozen BK230.out 6
                go_wp2
                go_ret
                exact ⟨by first | rfl | (simp [errW_none, errW_some] <;> rfl) | (simp [*, errW_none, errW_some] <;> rfl), by repeat (first | (with_reducible first | exact HB.out | apply below_alloc | apply pw_below_drewN | apply below_drew1 | refine below_set ?_ GE230.out) | exact HB.out)⟩
            · rw [if_neg c16] at H
              have c16b0 : decide (a0_4 ≤ 4294967296) = false := decide_eq_false c16
              clear c16
              obtain rfl := Option.some.inj H
              have hcz24_0 : wc.cell? ⟨gb230, 0, none⟩ = some (.int .u64 a0_0) := (blk_cell BK230.out 0).trans rfl
              have hcz24_1 : wc.cell? ⟨gb230, 1, none⟩ = some (.int .i64 a0_1) := (blk_cell BK230.out 1).trans rfl
              have hcz24_2 : wc.cell? ⟨gb230, 2, none⟩ = some (.int .i64 a0_2) := (blk_cell BK230.out 2).trans rfl
              have hcz24_3 : wc.cell? ⟨gb230, 3, none⟩ = some (.int .u64 a0_3) := (blk_cell BK230.out 3).trans rfl
              have hcz24_4 : wc.cell? ⟨gb230, 4, none⟩ = some (.int .u64 a0_4) := (blk_cell BK230.out 4).trans rfl
              have hcz24_5 : wc.cell? ⟨gb230, 5, none⟩ = some (.int .i64 a0_5) := (blk_cell BK230.out 5).trans rfl
              have hcz24_6 : wc.cell? ⟨gb230, 6, none⟩ = some (.int .i64 a0_6) := (blk_cell BK230.out 6).trans rfl
              have hfz24_0 := blk_frozen BK230.out 0
              have hfz24_1 := blk_frozen BK230.out 1
              have hfz24_2 := blk_frozen BK230.out 2
              have hfz24_3 := blk_frozen BK230.out 3
              have hfz24_4 := blk_frozen BK230.out 4
              have hfz24_5 := blk_frozen BK230.out 5
              have hfz24_6 := blk_frozen BK230.out 6
              go_wp2
              go_ret
              exact ⟨by first | rfl | (simp [errW_none, errW_some] <;> rfl) | (simp [*, errW_none, errW_some] <;> rfl), by repeat (first | (with_reducible first | exact HB.out | apply below_alloc | apply pw_below_drewN | apply below_drew1 | refine below_set ?_ GE230.out) | exact HB.out)⟩
          · rw [if_neg c15] at H
            have c15b0 : decide (1 ≤ a0_4) = false := decide_eq_false c15
            clear c15
            obtain rfl := Option.some.inj H
            have hcz25_0 : wc.cell? ⟨gb230, 0, none⟩ = some (.int .u64 a0_0) := (blk_cell BK230.out 0).trans rfl
            have hcz25_1 : wc.cell? ⟨gb230, 1, none⟩ = some (.int .i64 a0_1) := (blk_cell BK230.out 1).trans rfl
            have hcz25_2 : wc.cell? ⟨gb230, 2, none⟩ = some (.int .i64 a0_2) := (blk_cell BK230.out 2).trans rfl
            have hcz25_3 : wc.cell? ⟨gb230, 3, none⟩ = some (.int .u64 a0_3) := (blk_cell BK230.out 3).trans rfl
            have hcz25_4 : wc.cell? ⟨gb230, 4, none⟩ = some (.int .u64 a0_4) := (blk_cell BK230.out 4).trans rfl
            have hcz25_5 : wc.cell? ⟨gb230, 5, none⟩ = some (.int .i64 a0_5) := (blk_cell BK230.out 5).trans rfl
            have hcz25_6 : wc.cell? ⟨gb230, 6, none⟩ = some (.int .i64 a0_6) := (blk_cell BK230.out 6).trans rfl
            have hfz25_0 := blk_frozen BK230.out 0
            have hfz25_1 := blk_frozen BK230.out 1
            have hfz25_2 := blk_frozen BK230.out 2
            have hfz25_3 := blk_frozen BK230.out 3
            have hfz25_4 := blk_frozen BK230.out 4
            have hfz25_5 := blk_frozen BK230.out 5
            have hfz25_6 := blk_frozen BK230.out 6
            go_wp2
            go_ret
            exact ⟨by first | rfl | (simp [errW_none, errW_some] <;> rfl) | (simp [*, errW_none, errW_some] <;> rfl), by repeat (first | (with_reducible first | exact HB.out | apply below_alloc | apply pw_below_drewN | apply below_drew1 | refine below_set ?_ GE230.out) | exact HB.out)⟩
        · rw [if_neg c14] at H
          have c14b0 : (a0_1 == 0) = false := beq_eq_false_iff_ne.mpr c14
          have c14b1 : (a0_1 != 0) = true := bne_iff_ne.mpr c14
          by_cases c26 : a0_1 < 2
          · rw [if_pos c26] at H
            have c26b0 : decide (a0_1 < 2) = true := decide_eq_true c26
            clear c26
            obtain rfl := Option.some.inj H
            have hcz27_0 : wc.cell? ⟨gb230, 0, none⟩ = some (.int .u64 a0_0) := (blk_cell BK230.out 0).trans rfl
            have hcz27_1 : wc.cell? ⟨gb230, 1, none⟩ = some (.int .i64 a0_1) := (blk_cell BK230.out 1).trans rfl
            have hcz27_2 : wc.cell? ⟨gb230, 2, none⟩ = some (.int .i64 a0_2) := (blk_cell BK230.out 2).trans rfl
            have hcz27_3 : wc.cell? ⟨gb230, 3, none⟩ = some (.int .u64 a0_3) := (blk_cell BK230.out 3).trans rfl
            have hcz27_4 : wc.cell? ⟨gb230, 4, none⟩ = some (.int .u64 a0_4) := (blk_cell BK230.out 4).trans rfl
            have hcz27_5 : wc.cell? ⟨gb230, 5, none⟩ = some (.int .i64 a0_5) := (blk_cell BK230.out 5).trans rfl
            have hcz27_6 : wc.cell? ⟨gb230, 6, none⟩ = some (.int .i64 a0_6) := (blk_cell BK230.out 6).trans rfl
            have hfz27_0 := blk_frozen BK230.out 0
            have hfz27_1 := blk_frozen BK230.out 1
            have hfz27_2 := blk_frozen BK230.out 2
            have hfz27_3 := blk_frozen BK230.out 3
            have hfz27_4 := blk_frozen BK230.out 4
            have hfz27_5 := blk_frozen BK230.out 5
            have hfz27_6 := blk_frozen BK230.out 6
            go_wp2
            go_ret
            exact ⟨by first | rfl | (simp [errW_none, errW_some] <;> rfl) | (simp [*, errW_none, errW_some] <;> rfl), by repeat (first | (with_reducible first | exact HB.out | apply below_alloc | apply pw_below_drewN | apply below_drew1 | refine below_set ?_ GE230.out) | exact HB.out)⟩
          · rw [if_neg c26] at H
            have c26b0 : decide (a0_1 < 2) = false := decide_eq_false c26
            clear c26
            by_cases c28 : a0_1 > (wrap64 (a0_2 - 1))
            · rw [if_pos c28] at H
              have c28b0 : decide ((wrap64 (a0_2 - 1)) < a0_1) = true := decide_eq_true c28
              clear c28
              obtain rfl := Option.some.inj H
              have hcz29_0 : wc.cell? ⟨gb230, 0, none⟩ = some (.int .u64 a0_0) := (blk_cell BK230.out 0).trans rfl
              have hcz29_1 : wc.cell? ⟨gb230, 1, none⟩ = some (.int .i64 a0_1) := (blk_cell BK230.out 1).trans rfl
              have hcz29_2 : wc.cell? ⟨gb230, 2, none⟩ = some (.int .i64 a0_2) := (blk_cell BK230.out 2).trans rfl
              have hcz29_3 : wc.cell? ⟨gb230, 3, none⟩ = some (.int .u64 a0_3) := (blk_cell BK230.out 3).trans rfl
              have hcz29_4 : wc.cell? ⟨gb230, 4, none⟩ = some (.int .u64 a0_4) := (blk_cell BK230.out 4).trans rfl
              have hcz29_5 : wc.cell? ⟨gb230, 5, none⟩ = some (.int .i64 a0_5) := (blk_cell BK230.out 5).trans rfl
              have hcz29_6 : wc.cell? ⟨gb230, 6, none⟩ = some (.int .i64 a0_6) := (blk_cell BK230.out 6).trans rfl
              have hfz29_0 := blk_frozen BK230.out 0
              have hfz29_1 := blk_frozen BK230.out 1
              have hfz29_2 := blk_frozen BK230.out 2
              have hfz29_3 := blk_frozen BK230.out 3
              have hfz29_4 := blk_frozen BK230.out 4
              have hfz29_5 := blk_frozen BK230.out 5
              have hfz29_6 := blk_frozen BK230.out 6
              go_wp2
              go_ret
              exact ⟨by first | rfl | (simp [errW_none, errW_some] <;> rfl) | (simp [*, errW_none, errW_some] <;> rfl), by repeat (first | (with_reducible first | exact HB.out | apply below_alloc | apply pw_below_drewN | apply below_drew1 | refine below_set ?_ GE230.out) | exact HB.out)⟩
            · rw [if_neg c28] at H
              have c28b0 : decide ((wrap64 (a0_2 - 1)) < a0_1) = false := decide_eq_false c28
              clear c28
              by_cases c30 : a0_4 ≥ 1
              · rw [if_pos c30] at H
                have c30b0 : decide (1 ≤ a0_4) = true := decide_eq_true c30
                clear c30
                by_cases c31 : a0_4 ≤ 4294967296
                · rw [if_pos c31] at H
                  have c31b0 : decide (a0_4 ≤ 4294967296) = true := decide_eq_true c31
                  clear c31
                  by_cases c32 : a0_5 ≥ 0
                  · rw [if_pos c32] at H
                    have c32b0 : decide (0 ≤ a0_5) = true := decide_eq_true c32
                    clear c32
                    by_cases c33 : a0_5 ≤ 2147483647
                    · rw [if_pos c33] at H
                      have c33b0 : decide (a0_5 ≤ 2147483647) = true := decide_eq_true c33
                      clear c33
                      by_cases c34 : a0_6 ≥ 0
                      · rw [if_pos c34] at H
                        have c34b0 : decide (0 ≤ a0_6) = true := decide_eq_true c34
                        clear c34
                        obtain rfl := Option.some.inj H
                        have hcz35_0 : wc.cell? ⟨gb230, 0, none⟩ = some (.int .u64 a0_0) := (blk_cell BK230.out 0).trans rfl
                        have hcz35_1 : wc.cell? ⟨gb230, 1, none⟩ = some (.int .i64 a0_1) := (blk_cell BK230.out 1).trans rfl
                        have hcz35_2 : wc.cell? ⟨gb230, 2, none⟩ = some (.int .i64 a0_2) := (blk_cell BK230.out 2).trans rfl
                        have hcz35_3 : wc.cell? ⟨gb230, 3, none⟩ = some (.int .u64 a0_3) := (blk_cell BK230.out 3).trans rfl
                        have hcz35_4 : wc.cell? ⟨gb230, 4, none⟩ = some (.int .u64 a0_4) := (blk_cell BK230.out 4).trans rfl
                        have hcz35_5 : wc.cell? ⟨gb230, 5, none⟩ = some (.int .i64 a0_5) := (blk_cell BK230.out 5).trans rfl
                        have hcz35_6 : wc.cell? ⟨gb230, 6, none⟩ = some (.int .i64 a0_6) := (blk_cell BK230.out 6).trans rfl
                        have hfz35_0 := blk_frozen BK230.out 0
                        have hfz35_1 := blk_frozen BK230.out 1
                        have hfz35_2 := blk_frozen BK230.out 2
                        have hfz35_3 := blk_frozen BK230.out 3
                        have hfz35_4 := blk_frozen BK230.out 4
                        have hfz35_5 := blk_frozen BK230.out 5
                        have hfz35_6 := blk_frozen BK230.out 6
                        go_wp2
                        go_ret
                        exact ⟨by first | rfl | (simp [errW_none, errW_some] <;> rfl) | (simp [*, errW_none, errW_some] <;> rfl), by repeat (first | (with_reducible first | exact HB.out | apply below_alloc | apply pw_below_drewN | apply below_drew1 | refine below_set ?_ GE230.out) | exact HB.out)⟩
                      · rw [if_neg c34] at H
                        have c34b0 : decide (0 ≤ a0_6) = false := decide_eq_false c34
                        clear c34
                        obtain rfl := Option.some.inj H
                        have hcz36_0 : wc.cell? ⟨gb230, 0, none⟩ = some (.int .u64 a0_0) := (blk_cell BK230.out 0).trans rfl
                        have hcz36_1 : wc.cell? ⟨gb230, 1, none⟩ = some (.int .i64 a0_1) := (blk_cell BK230.out 1).trans rfl
                        have hcz36_2 : wc.cell? ⟨gb230, 2, none⟩ = some (.int .i64 a0_2) := (blk_cell BK230.out 2).trans rfl
                        have hcz36_3 : wc.cell? ⟨gb230, 3, none⟩ = some (.int .u64 a0_3) := (blk_cell BK230.out 3).trans rfl
                        have hcz36_4 : wc.cell? ⟨gb230, 4, none⟩ = some (.int .u64 a0_4) := (blk_cell BK230.out 4).trans rfl
                        have hcz36_5 : wc.cell? ⟨gb230, 5, none⟩ = some (.int .i64 a0_5) := (blk_cell BK230.out 5).trans rfl
                        have hcz36_6 : wc.cell? ⟨gb230, 6, none⟩ = some (.int .i64 a0_6) := (blk_cell BK230.out 6).trans rfl
                        have hfz36_0 := blk_frozen BK230.out 0
                        have hfz36_1 := blk_frozen BK230.out 1
                        have hfz36_2 := blk_frozen BK230.out 2
                        have hfz36_3 := blk_frozen BK230.out 3
                        have hfz36_4 := blk_frozen BK230.out 4
                        have hfz36_5 := blk_frozen BK230.out 5
                        have hfz36_6 := blk_frozen BK230.out 6
                        go_wp2
                        go_ret
                        exact ⟨by first | rfl | (simp [errW_none, errW_some] <;> rfl) | (simp [*, errW_none, errW_some] <;> rfl), by repeat (first | (with_reducible first | exact HB.out | apply below_alloc | apply pw_below_drewN | apply below_drew1 | refine below_set ?_ GE230.out) | exact HB.out)⟩
                    · rw [if_neg c33] at H
                      have c33b0 : decide (a0_5 ≤ 2147483647) = false := decide_eq_false c33
                      clear c33
                      obtain rfl := Option.some.inj H
                      have hcz37_0 : wc.cell? ⟨gb230, 0, none⟩ = some (.int .u64 a0_0) := (blk_cell BK230.out 0).trans rfl
                      have hcz37_1 : wc.cell? ⟨gb230, 1, none⟩ = some (.int .i64 a0_1) := (blk_cell BK230.out 1).trans rfl
                      have hcz37_2 : wc.cell? ⟨gb230, 2, none⟩ = some (.int .i64 a0_2) := (blk_cell BK230.out 2).trans rfl
                      have hcz37_3 : wc.cell? ⟨gb230, 3, none⟩ = some (.int .u64 a0_3) := (blk_cell BK230.out 3).trans rfl
                      have hcz37_4 : wc.cell? ⟨gb230, 4, none⟩ = some (.int .u64 a0_4) := (blk_cell BK230.out 4).trans rfl
                      have hcz37_5 : wc.cell? ⟨gb230, 5, none⟩ = some (.int .i64 a0_5) := (blk_cell BK230.out 5).trans rfl
                      have hcz37_6 : wc.cell? ⟨gb230, 6, none⟩ = some (.int .i64 a0_6) := (blk_cell BK230.out 6).trans rfl
                      have hfz37_0 := blk_frozen BK230.out 0
                      have hfz37_1 := blk_frozen BK230.out 1
                      have hfz37_2 := blk_frozen BK230.out 2
                      have hfz37_3 := blk_frozen BK230.out 3
                      have hfz37_4 := blk_frozen BK230.out 4
                      have hfz37_5 := blk_frozen BK230.out 5
                      have hfz37_6 := blk_frozen BK230.out 6
                      go_wp2
                      go_ret
                      exact ⟨by first | rfl | (simp [errW_none, errW_some] <;> rfl) | (simp [*, errW_none, errW_some] <;> rfl), by repeat (first | (with_reducible first | exact HB.out | apply below_alloc | apply pw_below_drewN | apply below_drew1 | refine below_set ?_ GE230.out) | exact HB.out)⟩
                  · rw [if_neg c32] at H
                    have c32b0 : decide (0 ≤ a0_5) = false := decide_eq_false c32
                    clear c32
                    obtain rfl := Option.some.inj H
                    have hcz38_0 : wc.cell? ⟨gb230, 0, none⟩ = some (.int .u64 a0_0) := (blk_cell BK230.out 0).trans rfl
                    have hcz38_1 : wc.cell? ⟨gb230, 1, none⟩ = some (.int .i64 a0_1) := (blk_cell BK230.out 1).trans rfl
                    have hcz38_2 : wc.cell? ⟨gb230, 2, none⟩ = some (.int .i64 a0_2) := (blk_cell BK230.out 2).trans rfl
                    have hcz38_3 : wc.cell? ⟨gb230, 3, none⟩ = some (.int .u64 a0_3) := (blk_cell BK230.out 3).trans rfl
                    have hcz38_4 : wc.cell? ⟨gb230, 4, none⟩ = some (.int .u64 a0_4) := (blk_cell BK230.out 4).trans rfl
                    have hcz38_5 : wc.cell? ⟨gb230, 5, none⟩ = some (.int .i64 a0_5) := (blk_cell BK230.out 5).trans rfl
                    have hcz38_6 : wc.cell? ⟨gb230, 6, none⟩ = some (.int .i64 a0_6) := (blk_cell BK230.out 6).trans rfl
                    have hfz38_0 := blk_frozen BK230.out 0
                    have hfz38_1 := blk_frozen BK230.out 1
                    have hfz38_2 := blk_frozen BK230.out 2
                    have hfz38_3 := blk_frozen BK230.out 3
                    have hfz38_4 := blk_frozen BK230.out 4
                    have hfz38_5 := blk_frozen BK230.out 5
                    have hfz38_6 := blk_frozen BK230.out 6
                    go_wp2
                    go_ret
                    exact ⟨by first | rfl | (simp [errW_none, errW_some] <;> rfl) | (simp [*, errW_none, errW_some] <;> rfl), by repeat (first | (with_reducible first | exact HB.out | apply below_alloc | apply pw_below_drewN | apply below_drew1 | refine below_set ?_ GE230.out) | exact HB.out)⟩
                · rw [if_neg c31] at H
                  have c31b0 : decide (a0_4 ≤ 4294967296) = false := decide_eq_false c31
                  clear c31
                  obtain rfl := Option.some.inj H
                  have hcz39_0 : wc.cell? ⟨gb230, 0, none⟩ = some (.int .u64 a0_0) := (blk_cell BK230.out 0).trans rfl
                  have hcz39_1 : wc.cell? ⟨gb230, 1, none⟩ = some (.int .i64 a0_1) := (blk_cell BK230.out 1).trans rfl
                  have hcz39_2 : wc.cell? ⟨gb230, 2, none⟩ = some (.int .i64 a0_2) := (blk_cell BK230.out 2).trans rfl
                  have hcz39_3 : wc.cell? ⟨gb230, 3, none⟩ = some (.int .u64 a0_3) := (blk_cell BK230.out 3).trans rfl
                  have hcz39_4 : wc.cell? ⟨gb230, 4, none⟩ = some (.int .u64 a0_4) := (blk_cell BK230.out 4).trans rfl
                  have hcz39_5 : wc.cell? ⟨gb230, 5, none⟩ = some (.int .i64 a0_5) := (blk_cell BK230.out 5).trans rfl
                  have hcz39_6 : wc.cell? ⟨gb230, 6, none⟩ = some (.int .i64 a0_6) := (blk_cell BK230.out 6).trans rfl
                  have hfz39_0 := blk_frozen BK230.out 0
                  have hfz39_1 := blk_frozen BK230.out 1
                  have hfz39_2 := blk_frozen BK230.out 2
                  have hfz39_3 := blk_frozen BK230.out 3
                  have hfz39_4 := blk_frozen BK230.out 4
                  have hfz39_5 := blk_frozen BK230.out 5
                  have hfz39_6 := blk_frozen BK230.out 6
                  go_wp2
                  go_ret
                  exact ⟨by first | rfl | (simp [errW_none, errW_some] <;> rfl) | (simp [*, errW_none, errW_some] <;> rfl), by repeat (first | (with_reducible first | exact HB.out | apply below_alloc | apply pw_below_drewN | apply below_drew1 | refine below_set ?_ GE230.out) | exact HB.out)⟩
              · rw [if_neg c30] at H
                have c30b0 : decide (1 ≤ a0_4) = false := decide_eq_false c30
                clear c30
                obtain rfl := Option.some.inj H
                have hcz40_0 : wc.cell? ⟨gb230, 0, none⟩ = some (.int .u64 a0_0) := (blk_cell BK230.out 0).trans rfl
                have hcz40_1 : wc.cell? ⟨gb230, 1, none⟩ = some (.int .i64 a0_1) := (blk_cell BK230.out 1).trans rfl
                have hcz40_2 : wc.cell? ⟨gb230, 2, none⟩ = some (.int .i64 a0_2) := (blk_cell BK230.out 2).trans rfl
                have hcz40_3 : wc.cell? ⟨gb230, 3, none⟩ = some (.int .u64 a0_3) := (blk_cell BK230.out 3).trans rfl
                have hcz40_4 : wc.cell? ⟨gb230, 4, none⟩ = some (.int .u64 a0_4) := (blk_cell BK230.out 4).trans rfl
                have hcz40_5 : wc.cell? ⟨gb230, 5, none⟩ = some (.int .i64 a0_5) := (blk_cell BK230.out 5).trans rfl
                have hcz40_6 : wc.cell? ⟨gb230, 6, none⟩ = some (.int .i64 a0_6) := (blk_cell BK230.out 6).trans rfl
                have hfz40_0 := blk_frozen BK230.out 0
                have hfz40_1 := blk_frozen BK230.out 1
                have hfz40_2 := blk_frozen BK230.out 2
                have hfz40_3 := blk_frozen BK230.out 3
                have hfz40_4 := blk_frozen BK230.out 4
                have hfz40_5 := blk_frozen BK230.out 5
                have hfz40_6 := blk_frozen BK230.out 6
                go_wp2
                go_ret
                exact ⟨by first | rfl | (simp [errW_none, errW_some] <;> rfl) | (simp [*, errW_none, errW_some] <;> rfl), by repeat (first | (with_reducible first | exact HB.out | apply below_alloc | apply pw_below_drewN | apply below_drew1 | refine below_set ?_ GE230.out) | exact HB.out)⟩

end Go.Proofs.Ytkecgmoaojklbaa.PAll
