/- stookref16.Get: out of the printed walk, its last region walked once, by hand. -/
import Derived.Test.YtkecgmoaojklbaaPAllx0
import Derived.Test.YtkecgmoaojklbaaRootKit
import Derived.Deep.RegionHeld3
import Derived.Test.YtkecgmoaojklbaaPAllx6
import Derived.Test.YtkecgmoaojklbaaPAllx9
import Derived.Test.YtkecgmoaojklbaaPAllx10
namespace Go.Proofs.Ytkecgmoaojklbaa.PAll
open Go.RowKit Go.Proofs.YtkecgmoaojklbaaVW.PrintWords Go.Proofs.YtkecgmoaojklbaaVW.PrintLast Go.Proofs.YtkecgmoaojklbaaVW.PrintMore
attribute [local go_sem] max2_int min2_int max_two min_two max_three min_three max_four min_four   -- for this text's walks alone
set_option linter.unusedVariables false
set_option linter.unusedSimpArgs false

/-! ### stookref16_Get, function 16 -/
mutual
def stookref16_Get.j0 : Nat → Int → List Int → Bool → Option (Int × Int × Int × Int × Int × Int × Int × Int)
  | 0, _, _, _ => none
  | k + 1, x0, x1, x21 => if x21 = true then (some (0, 0, 0, 0, 0, 0, 0, 2)) else ((stookref15_Get.f k x0 x1).bind fun bt327 => (if bt327.2.2 = 0 then (if bt327.1 = 1 then (stookref16_Get.l0 k x0 bt327.2.1 ([] : List Int) 0 0) else (some (0, 0, 0, 0, 0, 0, 0, 5))) else (some (0, 0, 0, 0, 0, 0, 0, bt327.2.2))))
def stookref16_Get.l0 : Nat → Int → List Int → List Int → Int → Int → Option (Int × Int × Int × Int × Int × Int × Int × Int)
  | 0, _, _, _, _, _ => none
  | k + 1, x0, x7, x9, x10, x11 => if x11 < 7 then ((stookref01_Get.f k x7 x10).bind fun bt332 => (if bt332.2.2 = 0 then (if x11 = 0 then (if x9.length < 17592186044416 then (stookref16_Get.l0 k x0 x7 (x9 ++ [bt332.1]) bt332.2.1 (wrap64 (x11 + 1))) else (none)) else (if x11 = 3 then (if x9.length < 17592186044416 then (stookref16_Get.l0 k x0 x7 (x9 ++ [bt332.1]) bt332.2.1 (wrap64 (x11 + 1))) else (none)) else (if bt332.1 > 8589934592 then (some (0, 0, 0, 0, 0, 0, 0, 5)) else (if x9.length < 17592186044416 then (stookref16_Get.l0 k x0 x7 (x9 ++ [bt332.1]) bt332.2.1 (wrap64 (x11 + 1))) else (none))))) else (some (0, 0, 0, 0, 0, 0, 0, 5)))) else (if 0 < (x9.length : Int) then (if 1 < (x9.length : Int) then (if 2 < (x9.length : Int) then (if 3 < (x9.length : Int) then (if 4 < (x9.length : Int) then (if 5 < (x9.length : Int) then (if 6 < (x9.length : Int) then (if x10 = (x7.length : Int) then ((stookref16_May.f k (rd x9 0) (wrap64 (rd x9 1)) (wrap64 (rd x9 2)) (rd x9 3) (rd x9 4) (wrap64 (rd x9 5)) (wrap64 (rd x9 6))).bind fun t352 => (if t352 = true then (if (wrap64 (Int.tmod (rd x9 0) 2)) = x0 then (some (rd x9 0, wrap64 (rd x9 1), wrap64 (rd x9 2), rd x9 3, rd x9 4, wrap64 (rd x9 5), wrap64 (rd x9 6), 0)) else (some (0, 0, 0, 0, 0, 0, 0, 5))) else (some (0, 0, 0, 0, 0, 0, 0, 5)))) else (some (0, 0, 0, 0, 0, 0, 0, 5))) else (none)) else (none)) else (none)) else (none)) else (none)) else (none)) else (none))
end
def stookref16_Get.f (k : Nat) (a0 : Int) (l1 : List Int) : Option (Int × Int × Int × Int × Int × Int × Int × Int) := if a0 = 0 then (stookref16_Get.j0 k a0 l1 false) else (stookref16_Get.j0 k a0 l1 (a0 != 1))
theorem stookref16_Get.mono_l : ∀ k, (∀ y0 y1 y2, LeO (stookref16_Get.j0 k y0 y1 y2) (stookref16_Get.j0 (k + 1) y0 y1 y2)) ∧ (∀ y0 y1 y2 y3 y4, LeO (stookref16_Get.l0 k y0 y1 y2 y3 y4) (stookref16_Get.l0 (k + 1) y0 y1 y2 y3 y4))
  | 0 => ⟨fun _ _ _ r h => by simp [stookref16_Get.j0] at h, fun _ _ _ _ _ r h => by simp [stookref16_Get.l0] at h⟩
  | k + 1 => by
    obtain ⟨ih0, ih1⟩ := stookref16_Get.mono_l k
    refine ⟨?_, ?_⟩
    · intro y0 y1 y2
      unfold stookref16_Get.j0
      repeat' first
      | (with_reducible exact ih0 _ _ _)
      | (with_reducible exact ih1 _ _ _ _ _)
      | (with_reducible exact stookref01_Get.mono _ _ _)
      | (with_reducible exact stookref15_Get.mono _ _ _)
      | (with_reducible exact stookref16_May.mono _ _ _ _ _ _ _ _)
      | (with_reducible exact LeO.refl _)
      | (with_reducible exact LeO.none _)
      | (with_reducible refine LeO.ite ?_ ?_)
      | (with_reducible refine LeO.bind ?_ (fun _ => ?_))
      | exact ih0 _ _ _
      | exact ih1 _ _ _ _ _
      | exact stookref01_Get.mono _ _ _
      | exact stookref15_Get.mono _ _ _
      | exact stookref16_May.mono _ _ _ _ _ _ _ _
      | exact LeO.none _
      | refine LeO.ite ?_ ?_
      | refine LeO.bind ?_ (fun _ => ?_)
    · intro y0 y1 y2 y3 y4
      unfold stookref16_Get.l0
      repeat' first
      | (with_reducible exact ih0 _ _ _)
      | (with_reducible exact ih1 _ _ _ _ _)
      | (with_reducible exact stookref01_Get.mono _ _ _)
      | (with_reducible exact stookref15_Get.mono _ _ _)
      | (with_reducible exact stookref16_May.mono _ _ _ _ _ _ _ _)
      | (with_reducible exact LeO.refl _)
      | (with_reducible exact LeO.none _)
      | (with_reducible refine LeO.ite ?_ ?_)
      | (with_reducible refine LeO.bind ?_ (fun _ => ?_))
      | exact ih0 _ _ _
      | exact ih1 _ _ _ _ _
      | exact stookref01_Get.mono _ _ _
      | exact stookref15_Get.mono _ _ _
      | exact stookref16_May.mono _ _ _ _ _ _ _ _
      | exact LeO.none _
      | refine LeO.ite ?_ ?_
      | refine LeO.bind ?_ (fun _ => ?_)
theorem stookref16_Get.mono : ∀ a0 a1 k, LeO (stookref16_Get.f k a0 a1) (stookref16_Get.f (k + 1) a0 a1) := by
  intro a0 a1 k
  obtain ⟨ih0, ih1⟩ := stookref16_Get.mono_l k
  unfold stookref16_Get.f
  repeat' first
      | (with_reducible exact ih0 _ _ _)
      | (with_reducible exact ih1 _ _ _ _ _)
      | (with_reducible exact stookref01_Get.mono _ _ _)
      | (with_reducible exact stookref15_Get.mono _ _ _)
      | (with_reducible exact stookref16_May.mono _ _ _ _ _ _ _ _)
      | (with_reducible exact LeO.refl _)
      | (with_reducible exact LeO.none _)
      | (with_reducible refine LeO.ite ?_ ?_)
      | (with_reducible refine LeO.bind ?_ (fun _ => ?_))
      | exact ih0 _ _ _
      | exact ih1 _ _ _ _ _
      | exact stookref01_Get.mono _ _ _
      | exact stookref15_Get.mono _ _ _
      | exact stookref16_May.mono _ _ _ _ _ _ _ _
      | exact LeO.none _
      | refine LeO.ite ?_ ?_
      | refine LeO.bind ?_ (fun _ => ?_)
set_option maxHeartbeats 8000000 in
set_option maxRecDepth 100000 in
theorem stookref16_Get.calls (k : Nat) (a0 : Int) (A1 : Option Addr) (c1 : Nat) (l1 : List Int) (r1 : Int) (r2 : Int) (r3 : Int) (r4 : Int) (r5 : Int) (r6 : Int) (r7 : Int) (r8 : Int) (w : World) (hr1 : Kd.C (Kd.int .u8) w A1 l1.length l1) (hc1 : l1.length ≤ c1) (h : stookref16_Get.f k a0 l1 = some (r1, r2, r3, r4, r5, r6, r7, r8)) :
    Calls Try.prog 16 #[.int .i64 a0, .slice A1 l1.length c1] w fun e w' => e = .returned (.tuple #[.agg #[.int .u64 r1, .int .i64 r2, .int .i64 r3, .int .u64 r4, .int .u64 r5, .int .i64 r6, .int .i64 r7], .int .i64 r8]) ∧ Below w.heap.size w w' := by
  have hu34 := Try.underlying34
  have HR1 := Aside0.mk hr1
  have HC1 := Aside0.mk hc1
  clear hr1 hc1
  have HB := Aside0.mk (Below.refl w.heap.size w)
  have H : (if a0 = 0 then (stookref16_Get.j0 k a0 l1 false) else (stookref16_Get.j0 k a0 l1 (a0 != 1))) = some (r1, r2, r3, r4, r5, r6, r7, r8) := h
  clear h
  have HC3 := Aside0.mk H
  clear H
  go_enter Try.func16, Try.ntmps16
  go_upto_region 1 with (first | ((with_reducible refine gate_dst (N := 4) rfl ?_); refine box_event ?hg (N := 4) ?hd (cs := #[.int .u64 0, .int .i64 0, .int .i64 0, .int .u64 0, .int .u64 0, .int .i64 0, .int .i64 0]) (t := 34) ?hr ?_; (case hd => rfl); (case hg => rfl); (case hr => first | (go_simp; done) | (go_simp; rfl)); intro gb326 hg w4 hbox hb; have n0_ := Aside0.mk (below_step (by repeat (first | (with_reducible first | exact HB.out | apply below_alloc | apply pw_below_drewN | apply below_drew1) | exact HB.out)) hb); have n1_ := Aside0.mk (hbox); have n2_ := Aside0.mk ((by rw [hg]; exact (below_size (by repeat (first | (with_reducible first | exact HB.out | apply below_alloc | apply pw_below_drewN | apply below_drew1) | exact HB.out))) : w.heap.size ≤ gb326)); have n3_ := Aside0.mk ((by rw [hg]; exact (below_size (by repeat (first | (with_reducible first | exact HB.out | apply below_alloc | apply pw_below_drewN | apply below_drew1) | exact HB.out))) : w.heap.size ≤ gb326)); clear HB; have HB := n0_; have BK326 := n1_; have GW326 := n2_; have GE326 := n3_; clear n0_ n1_ n2_ n3_; clear hb hbox hg))
  (try simp only [Act.put, List.setIfInBounds_toArray, List.set_cons_zero, List.set_cons_succ])
  go_cut [21] (fun v21 wc => ∃ (kq : Nat) (x21_2 : Bool), v21 = .bool x21_2 ∧ Aside0 (stookref16_Get.j0 kq a0 l1 x21_2 = some (r1, r2, r3, r4, r5, r6, r7, r8)) ∧ Aside0 (kq ≤ k) ∧ Aside0 (wc.heap[gb326]? = some (.cells #[.int .u64 0, .int .i64 0, .int .i64 0, .int .u64 0, .int .u64 0, .int .i64 0, .int .i64 0] 34 (0, 0))) ∧ Aside0 (Below w.heap.size w wc))
  case first =>
    have H := HC3.out
    clear HC3
    by_cases c5 : a0 = 0
    · rw [if_pos c5] at H
      have c5b0 : (a0 == 0) = true := beq_iff_eq.mpr c5
      have c5b1 : (a0 != 0) = false := bne_eq_false_iff_eq.mpr c5
      clear c5
      (first | rw [c5b0] | (simp only [i64_w, i32_w]; rw [c5b0]) | skip)
      have H' := Aside0.mk H
      clear H
      go_wp2
      go_meet
      case rel => exact ⟨_, (false), (by first | rfl | (simp; done) | (simp [*]; done)), H', ⟨by first | omega | exact Nat.le_refl _⟩, ⟨by (with_reducible repeat (first | refine blk_drewN ?_ _ | refine blk_drew ?_ | refine blk_alloc ?_ _)); exact BK326.out⟩, ⟨by repeat (first | (with_reducible first | exact HB.out | apply below_alloc | apply pw_below_drewN | apply below_drew1 | refine below_set ?_ GE326.out) | exact HB.out)⟩⟩
    · rw [if_neg c5] at H
      have c5b0 : (a0 == 0) = false := beq_eq_false_iff_ne.mpr c5
      have c5b1 : (a0 != 0) = true := bne_iff_ne.mpr c5
      (first | rw [c5b0] | (simp only [i64_w, i32_w]; rw [c5b0]) | skip)
      have H' := Aside0.mk H
      clear H
      go_wp2
      go_meet
      case rel => exact ⟨_, ((a0 != 1)), (by first | rfl | (simp; done) | (simp [*]; done)), H', ⟨by first | omega | exact Nat.le_refl _⟩, ⟨by (with_reducible repeat (first | refine blk_drewN ?_ _ | refine blk_drew ?_ | refine blk_alloc ?_ _)); exact BK326.out⟩, ⟨by repeat (first | (with_reducible first | exact HB.out | apply below_alloc | apply pw_below_drewN | apply below_drew1 | refine below_set ?_ GE326.out) | exact HB.out)⟩⟩
  case rest =>
    clear HC3
    try clear c1
    try clear p2
    try clear c5
    try clear c5b0
    try clear c5b1
    obtain ⟨kq, x21_2, rfl, HA, HJ2, BK326, HB⟩ := hcut
    cases kq with
    | zero => exact absurd HA.out (by simp [stookref16_Get.j0])
    | succ kj2 =>
      have H := HA.out
      clear HA
      simp only [stookref16_Get.j0] at H
      by_cases c6 : x21_2 = true
      · subst c6
        have H1 : (some (0, 0, 0, 0, 0, 0, 0, 2)) = some (r1, r2, r3, r4, r5, r6, r7, r8) := by rw [if_pos rfl] at H; exact H
        clear H
        have H := H1
        clear H1
        simp only [Option.some.injEq, Prod.mk.injEq] at H
        obtain ⟨rfl, rfl, rfl, rfl, rfl, rfl, rfl, rfl⟩ := H
        have hcz7_0 : wc.cell? ⟨gb326, 0, none⟩ = some (.int .u64 0) := (blk_cell BK326.out 0).trans rfl
        have hcz7_1 : wc.cell? ⟨gb326, 1, none⟩ = some (.int .i64 0) := (blk_cell BK326.out 1).trans rfl
        have hcz7_2 : wc.cell? ⟨gb326, 2, none⟩ = some (.int .i64 0) := (blk_cell BK326.out 2).trans rfl
        have hcz7_3 : wc.cell? ⟨gb326, 3, none⟩ = some (.int .u64 0) := (blk_cell BK326.out 3).trans rfl
        have hcz7_4 : wc.cell? ⟨gb326, 4, none⟩ = some (.int .u64 0) := (blk_cell BK326.out 4).trans rfl
        have hcz7_5 : wc.cell? ⟨gb326, 5, none⟩ = some (.int .i64 0) := (blk_cell BK326.out 5).trans rfl
        have hcz7_6 : wc.cell? ⟨gb326, 6, none⟩ = some (.int .i64 0) := (blk_cell BK326.out 6).trans rfl
        have hfz7_0 := blk_frozen BK326.out 0
        have hfz7_1 := blk_frozen BK326.out 1
        have hfz7_2 := blk_frozen BK326.out 2
        have hfz7_3 := blk_frozen BK326.out 3
        have hfz7_4 := blk_frozen BK326.out 4
        have hfz7_5 := blk_frozen BK326.out 5
        have hfz7_6 := blk_frozen BK326.out 6
        go_wp2
        refine bodyPost_ret (results_ct rfl _ _ gb326 34 #[.int .u64 0, .int .i64 0, .int .i64 0, .int .u64 0, .int .u64 0, .int .i64 0, .int .i64 0] (0, 0) _ rfl (by (with_reducible repeat (first | refine blk_drewN ?_ _ | refine blk_drew ?_ | refine blk_alloc ?_ _)); refine blk_put (cs := #[.int .u64 0, .int .i64 0, .int .i64 0, .int .u64 0, .int .u64 0, .int .i64 0, .int .i64 0]) ?_ 6 _ rfl; (with_reducible repeat (first | refine blk_drewN ?_ _ | refine blk_drew ?_ | refine blk_alloc ?_ _)); refine blk_put (cs := #[.int .u64 0, .int .i64 0, .int .i64 0, .int .u64 0, .int .u64 0, .int .i64 0, .int .i64 0]) ?_ 5 _ rfl; (with_reducible repeat (first | refine blk_drewN ?_ _ | refine blk_drew ?_ | refine blk_alloc ?_ _)); refine blk_put (cs := #[.int .u64 0, .int .i64 0, .int .i64 0, .int .u64 0, .int .u64 0, .int .i64 0, .int .i64 0]) ?_ 4 _ rfl; (with_reducible repeat (first | refine blk_drewN ?_ _ | refine blk_drew ?_ | refine blk_alloc ?_ _)); refine blk_put (cs := #[.int .u64 0, .int .i64 0, .int .i64 0, .int .u64 0, .int .u64 0, .int .i64 0, .int .i64 0]) ?_ 3 _ rfl; (with_reducible repeat (first | refine blk_drewN ?_ _ | refine blk_drew ?_ | refine blk_alloc ?_ _)); refine blk_put (cs := #[.int .u64 0, .int .i64 0, .int .i64 0, .int .u64 0, .int .u64 0, .int .i64 0, .int .i64 0]) ?_ 2 _ rfl; (with_reducible repeat (first | refine blk_drewN ?_ _ | refine blk_drew ?_ | refine blk_alloc ?_ _)); refine blk_put (cs := #[.int .u64 0, .int .i64 0, .int .i64 0, .int .u64 0, .int .u64 0, .int .i64 0, .int .i64 0]) ?_ 1 _ rfl; (with_reducible repeat (first | refine blk_drewN ?_ _ | refine blk_drew ?_ | refine blk_alloc ?_ _)); refine blk_put (cs := #[.int .u64 0, .int .i64 0, .int .i64 0, .int .u64 0, .int .u64 0, .int .i64 0, .int .i64 0]) ?_ 0 _ rfl; (with_reducible repeat (first | refine blk_drewN ?_ _ | refine blk_drew ?_ | refine blk_alloc ?_ _)); exact BK326.out) Try.underlying34 rfl (by kernel_rfl)) rfl ?_
        exact ⟨by first | rfl | (simp [errW_none, errW_some] <;> rfl) | (simp [*, errW_none, errW_some] <;> rfl), by repeat (first | (with_reducible first | exact HB.out | apply below_alloc | apply pw_below_drewN | apply below_drew1 | refine below_set ?_ GE326.out) | exact HB.out)⟩
      · replace c6 := Bool.eq_false_iff.mpr c6
        subst c6
        have H1 : ((stookref15_Get.f kj2 a0 l1).bind fun bt327 => (if bt327.2.2 = 0 then (if bt327.1 = 1 then (stookref16_Get.l0 kj2 a0 bt327.2.1 ([] : List Int) 0 0) else (some (0, 0, 0, 0, 0, 0, 0, 5))) else (some (0, 0, 0, 0, 0, 0, 0, bt327.2.2)))) = some (r1, r2, r3, r4, r5, r6, r7, r8) := by rw [if_neg (show ¬ (false = true) by decide)] at H; exact H
        clear H
        have H := H1
        clear H1
        replace H := Option.bind_eq_some_iff.mp H
        obtain ⟨⟨t327, t328, t329⟩, A80, H⟩ := H
        replace H : (if t329 = 0 then (if t327 = 1 then (stookref16_Get.l0 kj2 a0 t328 ([] : List Int) 0 0) else (some (0, 0, 0, 0, 0, 0, 0, 5))) else (some (0, 0, 0, 0, 0, 0, 0, t329))) = some (r1, r2, r3, r4, r5, r6, r7, r8) := H
        have A8 := Aside0.mk A80
        clear A80
        by_cases c9 : t329 = 0
        · rw [if_pos c9] at H
          have c9b0 : (t329 == 0) = true := beq_iff_eq.mpr c9
          have c9b1 : (t329 != 0) = false := bne_eq_false_iff_eq.mpr c9
          clear c9
          by_cases c10 : t327 = 1
          · rw [if_pos c10] at H
            have c10b0 : (t327 == 1) = true := beq_iff_eq.mpr c10
            have c10b1 : (t327 != 1) = false := bne_eq_false_iff_eq.mpr c10
            clear c10
            have H' := Aside0.mk H
            clear H
            go_wp2_with (first | ((with_reducible refine gate_callee (f := 32) rfl ?_); refine goesL_ (some 26) rfl rfl Try.func32 (by kernel_rfl) rfl #[.int .i64 a0, .slice A1 l1.length c1] rfl (by (try simp only [List.map_toArray, List.map_cons, List.map_nil]); first | done | rfl | (simp only [List.length_drop, List.length_take]; rfl)) ?_; (with_reducible refine (stookref15_Get.calls kj2 a0 _ _ l1 t327 t328 t329 _ ?side1 ?side2 A8.out).mono ?_); (case side1 => repeat (first | exact (Kd.C_below HR1.out HB.out) | (with_reducible refine Kd.C_alloc ?_ _) | (with_reducible refine Kd.C_drewN ?_ _) | (with_reducible refine Kd.C_drew ?_))); (case side2 => exact HC1.out); rintro e w11 ⟨v330, rfl, ho0, hb⟩; refine ⟨_, rfl, ?_⟩; have n0_ := Aside0.mk (Kd.R_lower ho0 (below_size (by repeat (first | (with_reducible first | exact HB.out | apply below_alloc | apply pw_below_drewN | apply below_drew1 | refine below_set ?_ GE326.out) | exact HB.out)))); have n1_ := Aside0.mk (blk_below (g := gb326) (o := .cells #[.int .u64 0, .int .i64 0, .int .i64 0, .int .u64 0, .int .u64 0, .int .i64 0, .int .i64 0] 34 (0, 0)) (by (with_reducible repeat (first | refine blk_drewN ?_ _ | refine blk_drew ?_ | refine blk_alloc ?_ _)); exact BK326.out) hb); have n2_ := Aside0.mk (below_step (by repeat (first | (with_reducible first | exact HB.out | apply below_alloc | apply pw_below_drewN | apply below_drew1 | refine below_set ?_ GE326.out) | exact HB.out)) hb); clear BK326; clear HB; have HO331 := n0_; have BK326 := n1_; have HB := n2_; clear n0_ n1_ n2_; (try clear hb); (try clear hb2); (try clear hk); (try clear hi); (try clear ho0)))
            go_loopg [9, 10, 11] kj2 (fun kq v9 v10 v11 w' => ∃ (x9_2 : List Int) (x10_2 : Int) (x11_2 : Int) (x327000_2 : Int) (x327001_2 : Int) (x327002_2 : Int) (x327003_2 : Int) (x327004_2 : Int) (x327005_2 : Int) (x327006_2 : Int), v10 = .int .i64 x10_2 ∧ v11 = .int .i64 x11_2 ∧ Aside0 (stookref16_Get.l0 kq a0 t328 x9_2 x10_2 x11_2 = some (r1, r2, r3, r4, r5, r6, r7, r8)) ∧ Aside0 (kq ≤ kj2) ∧ Aside0 (Kd.R (Kd.int .u8) 5 w' w.heap.size (fun _ => True) v330 t328) ∧ Aside0 (Kd.R (Kd.int .u64) 32 w' w.heap.size (fun _ => True) v9 x9_2) ∧ Aside0 (w'.heap[gb326]? = some (.cells #[.int .u64 x327000_2, .int .i64 x327001_2, .int .i64 x327002_2, .int .u64 x327003_2, .int .u64 x327004_2, .int .i64 x327005_2, .int .i64 x327006_2] 34 (0, 0))) ∧ Aside0 (Below w.heap.size w w'))
            case atStart => exact ⟨(([] : List Int)), (0), (0), (0), (0), (0), (0), (0), (0), (0), (by first | rfl | (simp; done) | (simp [*]; done)), (by first | rfl | (simp; done) | (simp [*]; done)), H', ⟨Nat.le_refl _⟩, ⟨by (with_reducible repeat (first | apply Kd.R_alloc | apply Kd.R_drewN | apply Kd.R_drew)); exact HO331.out⟩, ⟨by first | exact Kd.R_nil _ _ _ _ _ | exact Kd.N_nil _ _ _ _ _ | exact Kd.V_nil _ _ _ _ _ | exact Kd.Q_nil _ _ _ _ _ | exact Kd.S_nil _ _ _ _ _⟩, ⟨by (with_reducible repeat (first | refine blk_drewN ?_ _ | refine blk_drew ?_ | refine blk_alloc ?_ _)); exact BK326.out⟩, ⟨by repeat (first | (with_reducible first | exact HB.out | apply below_alloc | apply pw_below_drewN | apply below_drew1 | refine below_set ?_ GE326.out) | exact HB.out)⟩⟩
            case round =>
              clear H'
              try clear c1
              try clear p2
              try clear c3
              try clear c5
              try clear c5b0
              try clear c5b1
              try clear c6
              try clear c9
              try clear c9b0
              try clear c9b1
              try clear c10
              try clear c10b0
              try clear c10b1
              try clear hcz7_0
              try clear hcz7_1
              try clear hcz7_2
              try clear hcz7_3
              try clear hcz7_4
              try clear hcz7_5
              try clear hcz7_6
              try clear hfz7_0
              try clear hfz7_1
              try clear hfz7_2
              try clear hfz7_3
              try clear hfz7_4
              try clear hfz7_5
              try clear hfz7_6
              try clear p2
              obtain ⟨x9_2, x10_2, x11_2, x327000_2, x327001_2, x327002_2, x327003_2, x327004_2, x327005_2, x327006_2, rfl, rfl, HA, HK2, HO_7, HO_9, BK326, HB⟩ := hrel
              cases gk with
              | zero => exact absurd HA.out (by simp [stookref16_Get.l0])
              | succ k2 =>
                have H := HA.out
                clear HA
                simp only [stookref16_Get.l0] at H
                by_cases c12 : x11_2 < 7
                · rw [if_pos c12] at H
                  have c12b0 : decide (x11_2 < 7) = true := decide_eq_true c12
                  clear c12
                  replace H := Option.bind_eq_some_iff.mp H
                  obtain ⟨⟨t332, t333, t334⟩, A130, H⟩ := H
                  replace H : (if t334 = 0 then (if x11_2 = 0 then (if x9_2.length < 17592186044416 then (stookref16_Get.l0 k2 a0 t328 (x9_2 ++ [t332]) t333 (wrap64 (x11_2 + 1))) else (none)) else (if x11_2 = 3 then (if x9_2.length < 17592186044416 then (stookref16_Get.l0 k2 a0 t328 (x9_2 ++ [t332]) t333 (wrap64 (x11_2 + 1))) else (none)) else (if t332 > 8589934592 then (some (0, 0, 0, 0, 0, 0, 0, 5)) else (if x9_2.length < 17592186044416 then (stookref16_Get.l0 k2 a0 t328 (x9_2 ++ [t332]) t333 (wrap64 (x11_2 + 1))) else (none))))) else (some (0, 0, 0, 0, 0, 0, 0, 5))) = some (r1, r2, r3, r4, r5, r6, r7, r8) := H
                  have A13 := Aside0.mk A130
                  clear A130
                  by_cases c14 : t334 = 0
                  · rw [if_pos c14] at H
                    have c14b0 : (t334 == 0) = true := beq_iff_eq.mpr c14
                    have c14b1 : (t334 != 0) = false := bne_eq_false_iff_eq.mpr c14
                    clear c14
                    by_cases c15 : x11_2 = 0
                    · rw [if_pos c15] at H
                      have c15b0 : (x11_2 == 0) = true := beq_iff_eq.mpr c15
                      have c15b1 : (x11_2 != 0) = false := bne_eq_false_iff_eq.mpr c15
                      clear c15
                      by_cases c16 : x9_2.length < 17592186044416
                      · rw [if_pos c16] at H
                        have LMc16 := Aside0.mk c16
                        clear c16
                        obtain ⟨y335, hy335⟩ : ∃ y_ : List Int, y_ = (x9_2 ++ [t332]) := ⟨_, rfl⟩
                        replace H : (stookref16_Get.l0 k2 a0 t328 y335 t333 (wrap64 (x11_2 + 1))) = some (r1, r2, r3, r4, r5, r6, r7, r8) := by first | (rw [hy335]; with_reducible exact H) | (have H2_ := (Option.bind_some _ _).symm.trans H; rw [hy335]; with_reducible exact H2_) | (have H2_ := (Option.bind_some _ _).symm.trans H; with_reducible exact H2_) | with_reducible exact H | (rw [hy335]; exact H) | exact H
                        have Ny335 := Aside0.mk hy335
                        clear hy335
                        have H' := Aside0.mk H
                        clear H
                        obtain ⟨Ao17, co17, eo17⟩ := Kd.R_slice HO_7.out
                        subst eo17
                        go_wp2_with (first | ((with_reducible refine gate_callee (f := 33) rfl ?_); refine goesL_ (some 44) rfl rfl Try.func33 (by kernel_rfl) rfl #[.slice Ao17 t328.length co17, .int .i64 x10_2] rfl (by (try simp only [List.map_toArray, List.map_cons, List.map_nil]); first | done | rfl | (simp only [List.length_drop, List.length_take]; rfl)) ?_; (with_reducible refine (stookref01_Get.calls k2 _ _ t328 x10_2 t332 t333 t334 _ ?side1 ?side2 A13.out).mono ?_); (case side1 => repeat (first | exact (Kd.R_reads' HO_7.out).2.2 | (with_reducible refine Kd.C_alloc ?_ _) | (with_reducible refine Kd.C_drewN ?_ _) | (with_reducible refine Kd.C_drew ?_))); (case side2 => exact (Kd.R_reads' HO_7.out).2.1); rintro e w' ⟨rfl, ⟨nd, rfl⟩⟩; refine ⟨_, rfl, ?_⟩) | ((with_reducible refine gate_builtin (b := .append) (xs := #[.tmp 63, .tmp 65]) rfl ?_); at_builtin; refine Kd.R_append (Kd.int .u64) (w0 := w) w.heap.size rfl (.tmp 63) (.tmp 65) 49 32 (.int .u64 0) 8 rfl Try.underlying49 info32 rfl (by decide) (by omega) u9 x9_2 t332 [.int .u64 t332] (fun _ => True) (fun _ => False) rfl rfl ?aP (fun _ hk => hk.elim) ?aF ?aO ?aB ?aS ?aL ?_; (case aP => exact rfl); (case aB => exact (by repeat (first | (with_reducible first | exact HB.out | apply below_alloc | apply pw_below_drewN | apply below_drew1 | refine below_set ?_ GE326.out) | exact HB.out))); (case aF => exact (fun _ _ => trivial)); (case aO => exact (by (with_reducible repeat (first | apply Kd.R_alloc | apply Kd.R_drewN | apply Kd.R_drew)); exact HO_9.out)); (case aS => exact (below_size (by repeat (first | (with_reducible first | exact HB.out | apply below_alloc | apply pw_below_drewN | apply below_drew1 | refine below_set ?_ GE326.out) | exact HB.out)))); (case aL => have := LMc16.out; omega); intro v336 w18 ho hb hg hat; rw [← Ny335.out] at ho; have n0_ := Aside0.mk (Kd.R_over' (by (with_reducible repeat (first | apply Kd.R_alloc | apply Kd.R_drewN | apply Kd.R_drew)); exact HO_7.out) (Kd.R_typed (by (with_reducible repeat (first | apply Kd.R_alloc | apply Kd.R_drewN | apply Kd.R_drew)); exact HO_9.out)) (by decide) hg); have n1_ := Aside0.mk (blk_grown (g := gb326) (o := .cells #[.int .u64 x327000_2, .int .i64 x327001_2, .int .i64 x327002_2, .int .u64 x327003_2, .int .u64 x327004_2, .int .i64 x327005_2, .int .i64 x327006_2] 34 (0, 0)) (by (with_reducible repeat (first | refine blk_drewN ?_ _ | refine blk_drew ?_ | refine blk_alloc ?_ _)); exact BK326.out) hg (Kd.R_ne HO_9.out BK326.out (by decide))); have n2_ := Aside0.mk (hb); have n3_ := Aside0.mk (ho); clear HO_7; clear BK326; clear HB; clear HO_9; have HO_7 := n0_; have BK326 := n1_; have HB := n2_; have HO337 := n3_; clear n0_ n1_ n2_ n3_; clear ho hb hg hat))
                        go_roundg k2
                        case measure => have := HJ2.out; have := HK2.out; omega
                        case rel => exact ⟨(y335), (t333), (wrap64 (x11_2 + 1)), (x327000_2), (x327001_2), (x327002_2), (x327003_2), (x327004_2), (x327005_2), (x327006_2), (by first | rfl | (simp; done) | (simp [*]; done)), (by first | rfl | (simp; done) | (simp [*]; done)), H', ⟨by have := HJ2.out; have := HK2.out; omega⟩, ⟨by (with_reducible repeat (first | apply Kd.R_alloc | apply Kd.R_drewN | apply Kd.R_drew)); exact HO_7.out⟩, ⟨by (with_reducible repeat (first | apply Kd.R_alloc | apply Kd.R_drewN | apply Kd.R_drew)); exact HO337.out⟩, ⟨by (with_reducible repeat (first | refine blk_drewN ?_ _ | refine blk_drew ?_ | refine blk_alloc ?_ _)); exact BK326.out⟩, ⟨by repeat (first | (with_reducible first | exact HB.out | apply below_alloc | apply pw_below_drewN | apply below_drew1 | refine below_set ?_ GE326.out) | exact HB.out)⟩⟩
                      · rw [if_neg c16] at H
                        exact absurd H (by simp)
                    · rw [if_neg c15] at H
                      have c15b0 : (x11_2 == 0) = false := beq_eq_false_iff_ne.mpr c15
                      have c15b1 : (x11_2 != 0) = true := bne_iff_ne.mpr c15
                      by_cases c19 : x11_2 = 3
                      · rw [if_pos c19] at H
                        have c19b0 : (x11_2 == 3) = true := beq_iff_eq.mpr c19
                        have c19b1 : (x11_2 != 3) = false := bne_eq_false_iff_eq.mpr c19
                        clear c19
                        by_cases c20 : x9_2.length < 17592186044416
                        · rw [if_pos c20] at H
                          have LMc20 := Aside0.mk c20
                          clear c20
                          obtain ⟨y338, hy338⟩ : ∃ y_ : List Int, y_ = (x9_2 ++ [t332]) := ⟨_, rfl⟩
                          replace H : (stookref16_Get.l0 k2 a0 t328 y338 t333 (wrap64 (x11_2 + 1))) = some (r1, r2, r3, r4, r5, r6, r7, r8) := by first | (rw [hy338]; with_reducible exact H) | (have H2_ := (Option.bind_some _ _).symm.trans H; rw [hy338]; with_reducible exact H2_) | (have H2_ := (Option.bind_some _ _).symm.trans H; with_reducible exact H2_) | with_reducible exact H | (rw [hy338]; exact H) | exact H
                          have Ny338 := Aside0.mk hy338
                          clear hy338
                          have H' := Aside0.mk H
                          clear H
                          obtain ⟨Ao21, co21, eo21⟩ := Kd.R_slice HO_7.out
                          subst eo21
                          go_wp2_with (first | ((with_reducible refine gate_callee (f := 33) rfl ?_); refine goesL_ (some 44) rfl rfl Try.func33 (by kernel_rfl) rfl #[.slice Ao21 t328.length co21, .int .i64 x10_2] rfl (by (try simp only [List.map_toArray, List.map_cons, List.map_nil]); first | done | rfl | (simp only [List.length_drop, List.length_take]; rfl)) ?_; (with_reducible refine (stookref01_Get.calls k2 _ _ t328 x10_2 t332 t333 t334 _ ?side1 ?side2 A13.out).mono ?_); (case side1 => repeat (first | exact (Kd.R_reads' HO_7.out).2.2 | (with_reducible refine Kd.C_alloc ?_ _) | (with_reducible refine Kd.C_drewN ?_ _) | (with_reducible refine Kd.C_drew ?_))); (case side2 => exact (Kd.R_reads' HO_7.out).2.1); rintro e w' ⟨rfl, ⟨nd, rfl⟩⟩; refine ⟨_, rfl, ?_⟩) | ((with_reducible refine gate_builtin (b := .append) (xs := #[.tmp 63, .tmp 65]) rfl ?_); at_builtin; refine Kd.R_append (Kd.int .u64) (w0 := w) w.heap.size rfl (.tmp 63) (.tmp 65) 49 32 (.int .u64 0) 8 rfl Try.underlying49 info32 rfl (by decide) (by omega) u9 x9_2 t332 [.int .u64 t332] (fun _ => True) (fun _ => False) rfl rfl ?aP (fun _ hk => hk.elim) ?aF ?aO ?aB ?aS ?aL ?_; (case aP => exact rfl); (case aB => exact (by repeat (first | (with_reducible first | exact HB.out | apply below_alloc | apply pw_below_drewN | apply below_drew1 | refine below_set ?_ GE326.out) | exact HB.out))); (case aF => exact (fun _ _ => trivial)); (case aO => exact (by (with_reducible repeat (first | apply Kd.R_alloc | apply Kd.R_drewN | apply Kd.R_drew)); exact HO_9.out)); (case aS => exact (below_size (by repeat (first | (with_reducible first | exact HB.out | apply below_alloc | apply pw_below_drewN | apply below_drew1 | refine below_set ?_ GE326.out) | exact HB.out)))); (case aL => have := LMc20.out; omega); intro v339 w22 ho hb hg hat; rw [← Ny338.out] at ho; have n0_ := Aside0.mk (Kd.R_over' (by (with_reducible repeat (first | apply Kd.R_alloc | apply Kd.R_drewN | apply Kd.R_drew)); exact HO_7.out) (Kd.R_typed (by (with_reducible repeat (first | apply Kd.R_alloc | apply Kd.R_drewN | apply Kd.R_drew)); exact HO_9.out)) (by decide) hg); have n1_ := Aside0.mk (blk_grown (g := gb326) (o := .cells #[.int .u64 x327000_2, .int .i64 x327001_2, .int .i64 x327002_2, .int .u64 x327003_2, .int .u64 x327004_2, .int .i64 x327005_2, .int .i64 x327006_2] 34 (0, 0)) (by (with_reducible repeat (first | refine blk_drewN ?_ _ | refine blk_drew ?_ | refine blk_alloc ?_ _)); exact BK326.out) hg (Kd.R_ne HO_9.out BK326.out (by decide))); have n2_ := Aside0.mk (hb); have n3_ := Aside0.mk (ho); clear HO_7; clear BK326; clear HB; clear HO_9; have HO_7 := n0_; have BK326 := n1_; have HB := n2_; have HO340 := n3_; clear n0_ n1_ n2_ n3_; clear ho hb hg hat))
                          go_roundg k2
                          case measure => have := HJ2.out; have := HK2.out; omega
                          case rel => exact ⟨(y338), (t333), (wrap64 (x11_2 + 1)), (x327000_2), (x327001_2), (x327002_2), (x327003_2), (x327004_2), (x327005_2), (x327006_2), (by first | rfl | (simp; done) | (simp [*]; done)), (by first | rfl | (simp; done) | (simp [*]; done)), H', ⟨by have := HJ2.out; have := HK2.out; omega⟩, ⟨by (with_reducible repeat (first | apply Kd.R_alloc | apply Kd.R_drewN | apply Kd.R_drew)); exact HO_7.out⟩, ⟨by (with_reducible repeat (first | apply Kd.R_alloc | apply Kd.R_drewN | apply Kd.R_drew)); exact HO340.out⟩, ⟨by (with_reducible repeat (first | refine blk_drewN ?_ _ | refine blk_drew ?_ | refine blk_alloc ?_ _)); exact BK326.out⟩, ⟨by repeat (first | (with_reducible first | exact HB.out | apply below_alloc | apply pw_below_drewN | apply below_drew1 | refine below_set ?_ GE326.out) | exact HB.out)⟩⟩
                        · rw [if_neg c20] at H
                          exact absurd H (by simp)
                      · rw [if_neg c19] at H
                        have c19b0 : (x11_2 == 3) = false := beq_eq_false_iff_ne.mpr c19
                        have c19b1 : (x11_2 != 3) = true := bne_iff_ne.mpr c19
                        by_cases c23 : t332 > 8589934592
                        · rw [if_pos c23] at H
                          have c23b0 : decide (8589934592 < t332) = true := decide_eq_true c23
                          clear c23
                          simp only [Option.some.injEq, Prod.mk.injEq] at H
                          obtain ⟨rfl, rfl, rfl, rfl, rfl, rfl, rfl, rfl⟩ := H
                          obtain ⟨Ao24, co24, eo24⟩ := Kd.R_slice HO_7.out
                          subst eo24
                          go_wp2_with (first | ((with_reducible refine gate_callee (f := 33) rfl ?_); refine goesL_ (some 44) rfl rfl Try.func33 (by kernel_rfl) rfl #[.slice Ao24 t328.length co24, .int .i64 x10_2] rfl (by (try simp only [List.map_toArray, List.map_cons, List.map_nil]); first | done | rfl | (simp only [List.length_drop, List.length_take]; rfl)) ?_; (with_reducible refine (stookref01_Get.calls k2 _ _ t328 x10_2 t332 t333 t334 _ ?side1 ?side2 A13.out).mono ?_); (case side1 => repeat (first | exact (Kd.R_reads' HO_7.out).2.2 | (with_reducible refine Kd.C_alloc ?_ _) | (with_reducible refine Kd.C_drewN ?_ _) | (with_reducible refine Kd.C_drew ?_))); (case side2 => exact (Kd.R_reads' HO_7.out).2.1); rintro e w' ⟨rfl, ⟨nd, rfl⟩⟩; refine ⟨_, rfl, ?_⟩; (try (rw [drewN_self wr]; generalize hq_ : World.drewN wr _ = wr; have n0_ : Aside0 (Kd.R (Kd.int .u8) 5 wr w.heap.size (fun _ => True) (.slice Ao24 t328.length co24) t328) := ⟨by rw [← hq_]; exact (by (with_reducible repeat (first | apply Kd.R_alloc | apply Kd.R_drewN | apply Kd.R_drew)); exact HO_7.out)⟩; have n1_ : Aside0 (Kd.R (Kd.int .u64) 32 wr w.heap.size (fun _ => True) u9 x9_2) := ⟨by rw [← hq_]; exact (by (with_reducible repeat (first | apply Kd.R_alloc | apply Kd.R_drewN | apply Kd.R_drew)); exact HO_9.out)⟩; have n2_ : Aside0 (wr.heap[gb326]? = some (.cells #[.int .u64 x327000_2, .int .i64 x327001_2, .int .i64 x327002_2, .int .u64 x327003_2, .int .u64 x327004_2, .int .i64 x327005_2, .int .i64 x327006_2] 34 (0, 0))) := ⟨by rw [← hq_]; exact (by (with_reducible repeat (first | refine blk_drewN ?_ _ | refine blk_drew ?_ | refine blk_alloc ?_ _)); exact BK326.out)⟩; have n3_ : Aside0 (Below w.heap.size w wr) := ⟨by rw [← hq_]; exact (by repeat (first | (with_reducible first | exact HB.out | apply below_alloc | apply pw_below_drewN | apply below_drew1 | refine below_set ?_ GE326.out) | exact HB.out))⟩; clear HO_7 HO_9 BK326 HB hq_; have HO_7 := n0_; have HO_9 := n1_; have BK326 := n2_; have HB := n3_; clear n0_ n1_ n2_ n3_)); have hcz25_0 : wr.cell? ⟨gb326, 0, none⟩ = some (.int .u64 x327000_2) := (blk_cell BK326.out 0).trans rfl; have hcz25_1 : wr.cell? ⟨gb326, 1, none⟩ = some (.int .i64 x327001_2) := (blk_cell BK326.out 1).trans rfl; have hcz25_2 : wr.cell? ⟨gb326, 2, none⟩ = some (.int .i64 x327002_2) := (blk_cell BK326.out 2).trans rfl; have hcz25_3 : wr.cell? ⟨gb326, 3, none⟩ = some (.int .u64 x327003_2) := (blk_cell BK326.out 3).trans rfl; have hcz25_4 : wr.cell? ⟨gb326, 4, none⟩ = some (.int .u64 x327004_2) := (blk_cell BK326.out 4).trans rfl; have hcz25_5 : wr.cell? ⟨gb326, 5, none⟩ = some (.int .i64 x327005_2) := (blk_cell BK326.out 5).trans rfl; have hcz25_6 : wr.cell? ⟨gb326, 6, none⟩ = some (.int .i64 x327006_2) := (blk_cell BK326.out 6).trans rfl; have hfz25_0 := blk_frozen BK326.out 0; have hfz25_1 := blk_frozen BK326.out 1; have hfz25_2 := blk_frozen BK326.out 2; have hfz25_3 := blk_frozen BK326.out 3; have hfz25_4 := blk_frozen BK326.out 4; have hfz25_5 := blk_frozen BK326.out 5; have hfz25_6 := blk_frozen BK326.out 6))
                          refine bodyPost_ret (results_ct rfl _ _ gb326 34 #[.int .u64 0, .int .i64 0, .int .i64 0, .int .u64 0, .int .u64 0, .int .i64 0, .int .i64 0] (0, 0) _ rfl (by (with_reducible repeat (first | refine blk_drewN ?_ _ | refine blk_drew ?_ | refine blk_alloc ?_ _)); refine blk_put (cs := #[.int .u64 0, .int .i64 0, .int .i64 0, .int .u64 0, .int .u64 0, .int .i64 0, .int .i64 x327006_2]) ?_ 6 _ rfl; (with_reducible repeat (first | refine blk_drewN ?_ _ | refine blk_drew ?_ | refine blk_alloc ?_ _)); refine blk_put (cs := #[.int .u64 0, .int .i64 0, .int .i64 0, .int .u64 0, .int .u64 0, .int .i64 x327005_2, .int .i64 x327006_2]) ?_ 5 _ rfl; (with_reducible repeat (first | refine blk_drewN ?_ _ | refine blk_drew ?_ | refine blk_alloc ?_ _)); refine blk_put (cs := #[.int .u64 0, .int .i64 0, .int .i64 0, .int .u64 0, .int .u64 x327004_2, .int .i64 x327005_2, .int .i64 x327006_2]) ?_ 4 _ rfl; (with_reducible repeat (first | refine blk_drewN ?_ _ | refine blk_drew ?_ | refine blk_alloc ?_ _)); refine blk_put (cs := #[.int .u64 0, .int .i64 0, .int .i64 0, .int .u64 x327003_2, .int .u64 x327004_2, .int .i64 x327005_2, .int .i64 x327006_2]) ?_ 3 _ rfl; (with_reducible repeat (first | refine blk_drewN ?_ _ | refine blk_drew ?_ | refine blk_alloc ?_ _)); refine blk_put (cs := #[.int .u64 0, .int .i64 0, .int .i64 x327002_2, .int .u64 x327003_2, .int .u64 x327004_2, .int .i64 x327005_2, .int .i64 x327006_2]) ?_ 2 _ rfl; (with_reducible repeat (first | refine blk_drewN ?_ _ | refine blk_drew ?_ | refine blk_alloc ?_ _)); refine blk_put (cs := #[.int .u64 0, .int .i64 x327001_2, .int .i64 x327002_2, .int .u64 x327003_2, .int .u64 x327004_2, .int .i64 x327005_2, .int .i64 x327006_2]) ?_ 1 _ rfl; (with_reducible repeat (first | refine blk_drewN ?_ _ | refine blk_drew ?_ | refine blk_alloc ?_ _)); refine blk_put (cs := #[.int .u64 x327000_2, .int .i64 x327001_2, .int .i64 x327002_2, .int .u64 x327003_2, .int .u64 x327004_2, .int .i64 x327005_2, .int .i64 x327006_2]) ?_ 0 _ rfl; (with_reducible repeat (first | refine blk_drewN ?_ _ | refine blk_drew ?_ | refine blk_alloc ?_ _)); exact BK326.out) Try.underlying34 rfl (by kernel_rfl)) rfl ?_
                          exact ⟨by first | rfl | (simp [errW_none, errW_some] <;> rfl) | (simp [*, errW_none, errW_some] <;> rfl), by repeat (first | (with_reducible first | exact HB.out | apply below_alloc | apply pw_below_drewN | apply below_drew1 | refine below_set ?_ GE326.out) | exact HB.out)⟩
                        · rw [if_neg c23] at H
                          have c23b0 : decide (8589934592 < t332) = false := decide_eq_false c23
                          clear c23
                          by_cases c26 : x9_2.length < 17592186044416
                          · rw [if_pos c26] at H
                            have LMc26 := Aside0.mk c26
                            clear c26
                            obtain ⟨y341, hy341⟩ : ∃ y_ : List Int, y_ = (x9_2 ++ [t332]) := ⟨_, rfl⟩
                            replace H : (stookref16_Get.l0 k2 a0 t328 y341 t333 (wrap64 (x11_2 + 1))) = some (r1, r2, r3, r4, r5, r6, r7, r8) := by first | (rw [hy341]; with_reducible exact H) | (have H2_ := (Option.bind_some _ _).symm.trans H; rw [hy341]; with_reducible exact H2_) | (have H2_ := (Option.bind_some _ _).symm.trans H; with_reducible exact H2_) | with_reducible exact H | (rw [hy341]; exact H) | exact H
                            have Ny341 := Aside0.mk hy341
                            clear hy341
                            have H' := Aside0.mk H
                            clear H
                            obtain ⟨Ao27, co27, eo27⟩ := Kd.R_slice HO_7.out
                            subst eo27
                            go_wp2_with (first | ((with_reducible refine gate_callee (f := 33) rfl ?_); refine goesL_ (some 44) rfl rfl Try.func33 (by kernel_rfl) rfl #[.slice Ao27 t328.length co27, .int .i64 x10_2] rfl (by (try simp only [List.map_toArray, List.map_cons, List.map_nil]); first | done | rfl | (simp only [List.length_drop, List.length_take]; rfl)) ?_; (with_reducible refine (stookref01_Get.calls k2 _ _ t328 x10_2 t332 t333 t334 _ ?side1 ?side2 A13.out).mono ?_); (case side1 => repeat (first | exact (Kd.R_reads' HO_7.out).2.2 | (with_reducible refine Kd.C_alloc ?_ _) | (with_reducible refine Kd.C_drewN ?_ _) | (with_reducible refine Kd.C_drew ?_))); (case side2 => exact (Kd.R_reads' HO_7.out).2.1); rintro e w' ⟨rfl, ⟨nd, rfl⟩⟩; refine ⟨_, rfl, ?_⟩) | ((with_reducible refine gate_builtin (b := .append) (xs := #[.tmp 63, .tmp 65]) rfl ?_); at_builtin; refine Kd.R_append (Kd.int .u64) (w0 := w) w.heap.size rfl (.tmp 63) (.tmp 65) 49 32 (.int .u64 0) 8 rfl Try.underlying49 info32 rfl (by decide) (by omega) u9 x9_2 t332 [.int .u64 t332] (fun _ => True) (fun _ => False) rfl rfl ?aP (fun _ hk => hk.elim) ?aF ?aO ?aB ?aS ?aL ?_; (case aP => exact rfl); (case aB => exact (by repeat (first | (with_reducible first | exact HB.out | apply below_alloc | apply pw_below_drewN | apply below_drew1 | refine below_set ?_ GE326.out) | exact HB.out))); (case aF => exact (fun _ _ => trivial)); (case aO => exact (by (with_reducible repeat (first | apply Kd.R_alloc | apply Kd.R_drewN | apply Kd.R_drew)); exact HO_9.out)); (case aS => exact (below_size (by repeat (first | (with_reducible first | exact HB.out | apply below_alloc | apply pw_below_drewN | apply below_drew1 | refine below_set ?_ GE326.out) | exact HB.out)))); (case aL => have := LMc26.out; omega); intro v342 w28 ho hb hg hat; rw [← Ny341.out] at ho; have n0_ := Aside0.mk (Kd.R_over' (by (with_reducible repeat (first | apply Kd.R_alloc | apply Kd.R_drewN | apply Kd.R_drew)); exact HO_7.out) (Kd.R_typed (by (with_reducible repeat (first | apply Kd.R_alloc | apply Kd.R_drewN | apply Kd.R_drew)); exact HO_9.out)) (by decide) hg); have n1_ := Aside0.mk (blk_grown (g := gb326) (o := .cells #[.int .u64 x327000_2, .int .i64 x327001_2, .int .i64 x327002_2, .int .u64 x327003_2, .int .u64 x327004_2, .int .i64 x327005_2, .int .i64 x327006_2] 34 (0, 0)) (by (with_reducible repeat (first | refine blk_drewN ?_ _ | refine blk_drew ?_ | refine blk_alloc ?_ _)); exact BK326.out) hg (Kd.R_ne HO_9.out BK326.out (by decide))); have n2_ := Aside0.mk (hb); have n3_ := Aside0.mk (ho); clear HO_7; clear BK326; clear HB; clear HO_9; have HO_7 := n0_; have BK326 := n1_; have HB := n2_; have HO343 := n3_; clear n0_ n1_ n2_ n3_; clear ho hb hg hat))
                            go_roundg k2
                            case measure => have := HJ2.out; have := HK2.out; omega
                            case rel => exact ⟨(y341), (t333), (wrap64 (x11_2 + 1)), (x327000_2), (x327001_2), (x327002_2), (x327003_2), (x327004_2), (x327005_2), (x327006_2), (by first | rfl | (simp; done) | (simp [*]; done)), (by first | rfl | (simp; done) | (simp [*]; done)), H', ⟨by have := HJ2.out; have := HK2.out; omega⟩, ⟨by (with_reducible repeat (first | apply Kd.R_alloc | apply Kd.R_drewN | apply Kd.R_drew)); exact HO_7.out⟩, ⟨by (with_reducible repeat (first | apply Kd.R_alloc | apply Kd.R_drewN | apply Kd.R_drew)); exact HO343.out⟩, ⟨by (with_reducible repeat (first | refine blk_drewN ?_ _ | refine blk_drew ?_ | refine blk_alloc ?_ _)); exact BK326.out⟩, ⟨by repeat (first | (with_reducible first | exact HB.out | apply below_alloc | apply pw_below_drewN | apply below_drew1 | refine below_set ?_ GE326.out) | exact HB.out)⟩⟩
                          · rw [if_neg c26] at H
                            exact absurd H (by simp)
                  · rw [if_neg c14] at H
                    have c14b0 : (t334 == 0) = false := beq_eq_false_iff_ne.mpr c14
                    have c14b1 : (t334 != 0) = true := bne_iff_ne.mpr c14
                    simp only [Option.some.injEq, Prod.mk.injEq] at H
                    obtain ⟨rfl, rfl, rfl, rfl, rfl, rfl, rfl, rfl⟩ := H
                    obtain ⟨Ao29, co29, eo29⟩ := Kd.R_slice HO_7.out
                    subst eo29
                    go_wp2_with (first | ((with_reducible refine gate_callee (f := 33) rfl ?_); refine goesL_ (some 44) rfl rfl Try.func33 (by kernel_rfl) rfl #[.slice Ao29 t328.length co29, .int .i64 x10_2] rfl (by (try simp only [List.map_toArray, List.map_cons, List.map_nil]); first | done | rfl | (simp only [List.length_drop, List.length_take]; rfl)) ?_; (with_reducible refine (stookref01_Get.calls k2 _ _ t328 x10_2 t332 t333 t334 _ ?side1 ?side2 A13.out).mono ?_); (case side1 => repeat (first | exact (Kd.R_reads' HO_7.out).2.2 | (with_reducible refine Kd.C_alloc ?_ _) | (with_reducible refine Kd.C_drewN ?_ _) | (with_reducible refine Kd.C_drew ?_))); (case side2 => exact (Kd.R_reads' HO_7.out).2.1); rintro e w' ⟨rfl, ⟨nd, rfl⟩⟩; refine ⟨_, rfl, ?_⟩; (try (rw [drewN_self wr]; generalize hq_ : World.drewN wr _ = wr; have n0_ : Aside0 (Kd.R (Kd.int .u8) 5 wr w.heap.size (fun _ => True) (.slice Ao29 t328.length co29) t328) := ⟨by rw [← hq_]; exact (by (with_reducible repeat (first | apply Kd.R_alloc | apply Kd.R_drewN | apply Kd.R_drew)); exact HO_7.out)⟩; have n1_ : Aside0 (Kd.R (Kd.int .u64) 32 wr w.heap.size (fun _ => True) u9 x9_2) := ⟨by rw [← hq_]; exact (by (with_reducible repeat (first | apply Kd.R_alloc | apply Kd.R_drewN | apply Kd.R_drew)); exact HO_9.out)⟩; have n2_ : Aside0 (wr.heap[gb326]? = some (.cells #[.int .u64 x327000_2, .int .i64 x327001_2, .int .i64 x327002_2, .int .u64 x327003_2, .int .u64 x327004_2, .int .i64 x327005_2, .int .i64 x327006_2] 34 (0, 0))) := ⟨by rw [← hq_]; exact (by (with_reducible repeat (first | refine blk_drewN ?_ _ | refine blk_drew ?_ | refine blk_alloc ?_ _)); exact BK326.out)⟩; have n3_ : Aside0 (Below w.heap.size w wr) := ⟨by rw [← hq_]; exact (by repeat (first | (with_reducible first | exact HB.out | apply below_alloc | apply pw_below_drewN | apply below_drew1 | refine below_set ?_ GE326.out) | exact HB.out))⟩; clear HO_7 HO_9 BK326 HB hq_; have HO_7 := n0_; have HO_9 := n1_; have BK326 := n2_; have HB := n3_; clear n0_ n1_ n2_ n3_)); have hcz30_0 : wr.cell? ⟨gb326, 0, none⟩ = some (.int .u64 x327000_2) := (blk_cell BK326.out 0).trans rfl; have hcz30_1 : wr.cell? ⟨gb326, 1, none⟩ = some (.int .i64 x327001_2) := (blk_cell BK326.out 1).trans rfl; have hcz30_2 : wr.cell? ⟨gb326, 2, none⟩ = some (.int .i64 x327002_2) := (blk_cell BK326.out 2).trans rfl; have hcz30_3 : wr.cell? ⟨gb326, 3, none⟩ = some (.int .u64 x327003_2) := (blk_cell BK326.out 3).trans rfl; have hcz30_4 : wr.cell? ⟨gb326, 4, none⟩ = some (.int .u64 x327004_2) := (blk_cell BK326.out 4).trans rfl; have hcz30_5 : wr.cell? ⟨gb326, 5, none⟩ = some (.int .i64 x327005_2) := (blk_cell BK326.out 5).trans rfl; have hcz30_6 : wr.cell? ⟨gb326, 6, none⟩ = some (.int .i64 x327006_2) := (blk_cell BK326.out 6).trans rfl; have hfz30_0 := blk_frozen BK326.out 0; have hfz30_1 := blk_frozen BK326.out 1; have hfz30_2 := blk_frozen BK326.out 2; have hfz30_3 := blk_frozen BK326.out 3; have hfz30_4 := blk_frozen BK326.out 4; have hfz30_5 := blk_frozen BK326.out 5; have hfz30_6 := blk_frozen BK326.out 6))
                    refine bodyPost_ret (results_ct rfl _ _ gb326 34 #[.int .u64 0, .int .i64 0, .int .i64 0, .int .u64 0, .int .u64 0, .int .i64 0, .int .i64 0] (0, 0) _ rfl (by (with_reducible repeat (first | refine blk_drewN ?_ _ | refine blk_drew ?_ | refine blk_alloc ?_ _)); refine blk_put (cs := #[.int .u64 0, .int .i64 0, .int .i64 0, .int .u64 0, .int .u64 0, .int .i64 0, .int .i64 x327006_2]) ?_ 6 _ rfl; (with_reducible repeat (first | refine blk_drewN ?_ _ | refine blk_drew ?_ | refine blk_alloc ?_ _)); refine blk_put (cs := #[.int .u64 0, .int .i64 0, .int .i64 0, .int .u64 0, .int .u64 0, .int .i64 x327005_2, .int .i64 x327006_2]) ?_ 5 _ rfl; (with_reducible repeat (first | refine blk_drewN ?_ _ | refine blk_drew ?_ | refine blk_alloc ?_ _)); refine blk_put (cs := #[.int .u64 0, .int .i64 0, .int .i64 0, .int .u64 0, .int .u64 x327004_2, .int .i64 x327005_2, .int .i64 x327006_2]) ?_ 4 _ rfl; (with_reducible repeat (first | refine blk_drewN ?_ _ | refine blk_drew ?_ | refine blk_alloc ?_ _)); refine blk_put (cs := #[.int .u64 0, .int .i64 0, .int .i64 0, .int .u64 x327003_2, .int .u64 x327004_2, .int .i64 x327005_2, .int .i64 x327006_2]) ?_ 3 _ rfl; (with_reducible repeat (first | refine blk_drewN ?_ _ | refine blk_drew ?_ | refine blk_alloc ?_ _)); refine blk_put (cs := #[.int .u64 0, .int .i64 0, .int .i64 x327002_2, .int .u64 x327003_2, .int .u64 x327004_2, .int .i64 x327005_2, .int .i64 x327006_2]) ?_ 2 _ rfl; (with_reducible repeat (first | refine blk_drewN ?_ _ | refine blk_drew ?_ | refine blk_alloc ?_ _)); refine blk_put (cs := #[.int .u64 0, .int .i64 x327001_2, .int .i64 x327002_2, .int .u64 x327003_2, .int .u64 x327004_2, .int .i64 x327005_2, .int .i64 x327006_2]) ?_ 1 _ rfl; (with_reducible repeat (first | refine blk_drewN ?_ _ | refine blk_drew ?_ | refine blk_alloc ?_ _)); refine blk_put (cs := #[.int .u64 x327000_2, .int .i64 x327001_2, .int .i64 x327002_2, .int .u64 x327003_2, .int .u64 x327004_2, .int .i64 x327005_2, .int .i64 x327006_2]) ?_ 0 _ rfl; (with_reducible repeat (first | refine blk_drewN ?_ _ | refine blk_drew ?_ | refine blk_alloc ?_ _)); exact BK326.out) Try.underlying34 rfl (by kernel_rfl)) rfl ?_
                    exact ⟨by first | rfl | (simp [errW_none, errW_some] <;> rfl) | (simp [*, errW_none, errW_some] <;> rfl), by repeat (first | (with_reducible first | exact HB.out | apply below_alloc | apply pw_below_drewN | apply below_drew1 | refine below_set ?_ GE326.out) | exact HB.out)⟩
                · rw [if_neg c12] at H
                  have c12b0 : decide (x11_2 < 7) = false := decide_eq_false c12
                  clear c12
                  by_cases c31 : 0 < (x9_2.length : Int)
                  · rw [if_pos c31] at H
                    have c31b0 : decide (0 < (x9_2.length : Int)) = true := decide_eq_true c31
                    have c31b1 : decide (0 < x9_2.length) = true := decide_eq_true (by omega)
                    clear c31
                    by_cases c32 : 1 < (x9_2.length : Int)
                    · rw [if_pos c32] at H
                      have c32b0 : decide (1 < (x9_2.length : Int)) = true := decide_eq_true c32
                      have c32b1 : decide (1 < x9_2.length) = true := decide_eq_true (by omega)
                      clear c32
                      by_cases c33 : 2 < (x9_2.length : Int)
                      · rw [if_pos c33] at H
                        have c33b0 : decide (2 < (x9_2.length : Int)) = true := decide_eq_true c33
                        have c33b1 : decide (2 < x9_2.length) = true := decide_eq_true (by omega)
                        clear c33
                        by_cases c34 : 3 < (x9_2.length : Int)
                        · rw [if_pos c34] at H
                          have c34b0 : decide (3 < (x9_2.length : Int)) = true := decide_eq_true c34
                          have c34b1 : decide (3 < x9_2.length) = true := decide_eq_true (by omega)
                          clear c34
                          by_cases c35 : 4 < (x9_2.length : Int)
                          · rw [if_pos c35] at H
                            have c35b0 : decide (4 < (x9_2.length : Int)) = true := decide_eq_true c35
                            have c35b1 : decide (4 < x9_2.length) = true := decide_eq_true (by omega)
                            clear c35
                            by_cases c36 : 5 < (x9_2.length : Int)
                            · rw [if_pos c36] at H
                              have c36b0 : decide (5 < (x9_2.length : Int)) = true := decide_eq_true c36
                              have c36b1 : decide (5 < x9_2.length) = true := decide_eq_true (by omega)
                              clear c36
                              by_cases c37 : 6 < (x9_2.length : Int)
                              · rw [if_pos c37] at H
                                have c37b0 : decide (6 < (x9_2.length : Int)) = true := decide_eq_true c37
                                have c37b1 : decide (6 < x9_2.length) = true := decide_eq_true (by omega)
                                clear c37
                                have hlen : (6 : Int) < (x9_2.length : Int) := of_decide_eq_true c37b0
                                have hlen0 : (0 : Int) < (x9_2.length : Int) := by omega
                                have hlen1 : (1 : Int) < (x9_2.length : Int) := by omega
                                have hlen2 : (2 : Int) < (x9_2.length : Int) := by omega
                                have hlen3 : (3 : Int) < (x9_2.length : Int) := by omega
                                have hlen4 : (4 : Int) < (x9_2.length : Int) := by omega
                                have hlen5 : (5 : Int) < (x9_2.length : Int) := by omega
                                have hlq0 : (0 < x9_2.length) = True := eq_true (by omega)
                                go_wp2
                                obtain ⟨gl, cl, el, hgl0, hgl, _⟩ := Kd.R_form HO_9.out (by omega)
                                subst el
                                have z0 : wr.cell? ⟨gl, 0, none⟩ = some (.int .u64 (rd x9_2 0)) := (Kd.R_celln 0 HO_9.out 0 (by decide) hlen0).1
                                have z1 : wr.cell? ⟨gl, 1, none⟩ = some (.int .u64 (rd x9_2 1)) := (Kd.R_celln 0 HO_9.out 1 (by decide) hlen1).1
                                have z2 : wr.cell? ⟨gl, 2, none⟩ = some (.int .u64 (rd x9_2 2)) := (Kd.R_celln 0 HO_9.out 2 (by decide) hlen2).1
                                have z3 : wr.cell? ⟨gl, 3, none⟩ = some (.int .u64 (rd x9_2 3)) := (Kd.R_celln 0 HO_9.out 3 (by decide) hlen3).1
                                have z4 : wr.cell? ⟨gl, 4, none⟩ = some (.int .u64 (rd x9_2 4)) := (Kd.R_celln 0 HO_9.out 4 (by decide) hlen4).1
                                have z5 : wr.cell? ⟨gl, 5, none⟩ = some (.int .u64 (rd x9_2 5)) := (Kd.R_celln 0 HO_9.out 5 (by decide) hlen5).1
                                have z6 : wr.cell? ⟨gl, 6, none⟩ = some (.int .u64 (rd x9_2 6)) := (Kd.R_celln 0 HO_9.out 6 (by decide) hlen).1
                                have k0 := World.new_ne wr _ z0
                                have k1 := World.new_ne wr _ z1
                                have k2 := World.new_ne wr _ z2
                                have k3 := World.new_ne wr _ z3
                                have k4 := World.new_ne wr _ z4
                                have k5 := World.new_ne wr _ z5
                                have k6 := World.new_ne wr _ z6
                                go_region_held3 (fun w' => w'.cell? ⟨gl, 0, none⟩ = some (.int .u64 (rd x9_2 0)) ∧ w'.cell? ⟨gl, 1, none⟩ = some (.int .u64 (rd x9_2 1)) ∧ w'.cell? ⟨gl, 2, none⟩ = some (.int .u64 (rd x9_2 2)) ∧ w'.cell? ⟨gl, 3, none⟩ = some (.int .u64 (rd x9_2 3)) ∧ w'.cell? ⟨gl, 4, none⟩ = some (.int .u64 (rd x9_2 4)) ∧ w'.cell? ⟨gl, 5, none⟩ = some (.int .u64 (rd x9_2 5)) ∧ w'.cell? ⟨gl, 6, none⟩ = some (.int .u64 (rd x9_2 6))) (go_keep) (fail)
                                clear z0 k0 z1 k1 z2 k2 z3 k3 z4 k4 z5 k5 z6 k6
                                have hv7 : Kd.R (Kd.int .u8) 5 wr w.heap.size (fun _ => True) v330 t328 := HO_7.out
                                obtain ⟨Av7, cv7, ev7⟩ := Kd.R_slice hv7
                                have hq0 : Rootb (wr.alloc (.cells #[.int .u64 (rd x9_2 0), .int .i64 (wrap64 (rd x9_2 1)), .int .i64 (wrap64 (rd x9_2 2)), .int .u64 (rd x9_2 3), .int .u64 (rd x9_2 4), .int .i64 (wrap64 (rd x9_2 5)), .int .i64 (wrap64 (rd x9_2 6))] 34)).drew wr.heap.size (.int .u64 (rd x9_2 0)) (.int .i64 (wrap64 (rd x9_2 1))) (.int .i64 (wrap64 (rd x9_2 2))) (.int .u64 (rd x9_2 3)) (.int .u64 (rd x9_2 4)) (.int .i64 (wrap64 (rd x9_2 5))) (.int .i64 (wrap64 (rd x9_2 6))) := (rootb_new wr _ _ _ _ _ _ _).drew
                                have hq1 : Rootb (wr.alloc (.cells #[.int .u64 (rd x9_2 0), .int .i64 (wrap64 (rd x9_2 1)), .int .i64 (wrap64 (rd x9_2 2)), .int .u64 (rd x9_2 3), .int .u64 (rd x9_2 4), .int .i64 (wrap64 (rd x9_2 5)), .int .i64 (wrap64 (rd x9_2 6))] 34)).drew gb326 (.int .u64 x327000_2) (.int .i64 x327001_2) (.int .i64 x327002_2) (.int .u64 x327003_2) (.int .u64 x327004_2) (.int .i64 x327005_2) (.int .i64 x327006_2) := blk_drew (blk_alloc BK326.out _)
                                have hq2 : Below w.heap.size w (wr.alloc (.cells #[.int .u64 (rd x9_2 0), .int .i64 (wrap64 (rd x9_2 1)), .int .i64 (wrap64 (rd x9_2 2)), .int .u64 (rd x9_2 3), .int .u64 (rd x9_2 4), .int .i64 (wrap64 (rd x9_2 5)), .int .i64 (wrap64 (rd x9_2 6))] 34)).drew := below_drew1 (below_alloc HB.out _)
                                have hq3 : gb326 ≠ wr.heap.size := by have : Rootb wr gb326 (.int .u64 x327000_2) (.int .i64 x327001_2) (.int .i64 x327002_2) (.int .u64 x327003_2) (.int .u64 x327004_2) (.int .i64 x327005_2) (.int .i64 x327006_2) := BK326.out; have := this.lt; omega
                                subst ev7
                                (try simp only [i64_w])
                                generalize (wr.alloc (.cells #[.int .u64 (rd x9_2 0), .int .i64 (wrap64 (rd x9_2 1)), .int .i64 (wrap64 (rd x9_2 2)), .int .u64 (rd x9_2 3), .int .u64 (rd x9_2 4), .int .i64 (wrap64 (rd x9_2 5)), .int .i64 (wrap64 (rd x9_2 6))] 34)).drew = w18 at *
                                have HQ0 := Aside0.mk hq0
                                have HQ1 := Aside0.mk hq1
                                have HQ2 := Aside0.mk hq2
                                have HQ3 := Aside0.mk hq3
                                clear hv7 hq0 hq1 hq2 hq3
                                have pc0 := HQ0.out.c0
                                have pc1 := HQ0.out.c1
                                have pc2 := HQ0.out.c2
                                have pc3 := HQ0.out.c3
                                have pc4 := HQ0.out.c4
                                have pc5 := HQ0.out.c5
                                have pc6 := HQ0.out.c6
                                by_cases c38 : x10_2 = (t328.length : Int)
                                · rw [if_pos c38] at H
                                  have c38b1 : (x10_2 != (t328.length : Int)) = false := bne_eq_false_iff_eq.mpr c38
                                  clear c38
                                  replace H := Option.bind_eq_some_iff.mp H
                                  obtain ⟨t352, A390, H⟩ := H
                                  have A39 := Aside0.mk A390
                                  clear A390
                                  by_cases c40 : t352 = true
                                  · subst c40
                                    rw [if_pos rfl] at H
                                    by_cases c41 : (wrap64 (Int.tmod (rd x9_2 0) 2)) = a0
                                    · rw [if_pos c41] at H
                                      have c41b1 : ((wrap64 (Int.tmod (rd x9_2 0) 2)) != a0) = false := bne_eq_false_iff_eq.mpr c41
                                      clear c41
                                      simp only [Option.some.injEq, Prod.mk.injEq] at H
                                      obtain ⟨rfl, rfl, rfl, rfl, rfl, rfl, rfl, rfl⟩ := H
                                      go_wp2_with (first | (go_at_call 26; (with_reducible refine (stookref16_May.calls k2 (rd x9_2 0) (wrap64 (rd x9_2 1)) (wrap64 (rd x9_2 2)) (rd x9_2 3) (rd x9_2 4) (wrap64 (rd x9_2 5)) (wrap64 (rd x9_2 6)) true _ A39.out).mono ?_); rintro e w55 ⟨rfl, hb⟩; have HR0 := Aside0.mk (HQ0.out.below hb); have HR1 := Aside0.mk (HQ1.out.below hb); have HR2 := Aside0.mk (below_step HQ2.out hb); clear hb; have pc0 := HR0.out.c0; have pc1 := HR0.out.c1; have pc2 := HR0.out.c2; have pc3 := HR0.out.c3; have pc4 := HR0.out.c4; have pc5 := HR0.out.c5; have pc6 := HR0.out.c6; have qc0 := HR1.out.c0; have qc1 := HR1.out.c1; have qc2 := HR1.out.c2; have qc3 := HR1.out.c3; have qc4 := HR1.out.c4; have qc5 := HR1.out.c5; have qc6 := HR1.out.c6; have qf0 := HR1.out.fr 0; have qf1 := HR1.out.fr 1; have qf2 := HR1.out.fr 2; have qf3 := HR1.out.fr 3; have qf4 := HR1.out.fr 4; have qf5 := HR1.out.fr 5; have qf6 := HR1.out.fr 6))
                                      refine bodyPost_ret (results_ct rfl _ _ gb326 34 #[.int .u64 (rd x9_2 0), .int .i64 (wrap64 (rd x9_2 1)), .int .i64 (wrap64 (rd x9_2 2)), .int .u64 (rd x9_2 3), .int .u64 (rd x9_2 4), .int .i64 (wrap64 (rd x9_2 5)), .int .i64 (wrap64 (rd x9_2 6))] (0, 0) _ rfl (HR1.out.put (.int .u64 (rd x9_2 0)) (.int .i64 (wrap64 (rd x9_2 1))) (.int .i64 (wrap64 (rd x9_2 2))) (.int .u64 (rd x9_2 3)) (.int .u64 (rd x9_2 4)) (.int .i64 (wrap64 (rd x9_2 5))) (.int .i64 (wrap64 (rd x9_2 6)))) Try.underlying34 rfl root_size) rfl ?_
                                      exact ⟨rfl, below_put7 HR2.out GE326.out _ _ _ _ _ _ _⟩
                                    · rw [if_neg c41] at H
                                      have c41b1 : ((wrap64 (Int.tmod (rd x9_2 0) 2)) != a0) = true := bne_iff_ne.mpr c41
                                      clear c41
                                      simp only [Option.some.injEq, Prod.mk.injEq] at H
                                      obtain ⟨rfl, rfl, rfl, rfl, rfl, rfl, rfl, rfl⟩ := H
                                      go_wp2_with (first | (go_at_call 26; (with_reducible refine (stookref16_May.calls k2 (rd x9_2 0) (wrap64 (rd x9_2 1)) (wrap64 (rd x9_2 2)) (rd x9_2 3) (rd x9_2 4) (wrap64 (rd x9_2 5)) (wrap64 (rd x9_2 6)) true _ A39.out).mono ?_); rintro e w55 ⟨rfl, hb⟩; have HR0 := Aside0.mk (HQ0.out.below hb); have HR1 := Aside0.mk (HQ1.out.below hb); have HR2 := Aside0.mk (below_step HQ2.out hb); clear hb; have pc0 := HR0.out.c0; have pc1 := HR0.out.c1; have pc2 := HR0.out.c2; have pc3 := HR0.out.c3; have pc4 := HR0.out.c4; have pc5 := HR0.out.c5; have pc6 := HR0.out.c6; have qc0 := HR1.out.c0; have qc1 := HR1.out.c1; have qc2 := HR1.out.c2; have qc3 := HR1.out.c3; have qc4 := HR1.out.c4; have qc5 := HR1.out.c5; have qc6 := HR1.out.c6; have qf0 := HR1.out.fr 0; have qf1 := HR1.out.fr 1; have qf2 := HR1.out.fr 2; have qf3 := HR1.out.fr 3; have qf4 := HR1.out.fr 4; have qf5 := HR1.out.fr 5; have qf6 := HR1.out.fr 6))
                                      refine bodyPost_ret (results_ct rfl _ _ gb326 34 #[.int .u64 0, .int .i64 0, .int .i64 0, .int .u64 0, .int .u64 0, .int .i64 0, .int .i64 0] (0, 0) _ rfl (HR1.out.put (.int .u64 0) (.int .i64 0) (.int .i64 0) (.int .u64 0) (.int .u64 0) (.int .i64 0) (.int .i64 0)) Try.underlying34 rfl root_size) rfl ?_
                                      exact ⟨rfl, below_put7 HR2.out GE326.out _ _ _ _ _ _ _⟩
                                  · rw [if_neg c40] at H
                                    have c40b := Bool.eq_false_iff.mpr c40
                                    subst c40b
                                    clear c40
                                    simp only [Option.some.injEq, Prod.mk.injEq] at H
                                    obtain ⟨rfl, rfl, rfl, rfl, rfl, rfl, rfl, rfl⟩ := H
                                    go_wp2_with (first | (go_at_call 26; (with_reducible refine (stookref16_May.calls k2 (rd x9_2 0) (wrap64 (rd x9_2 1)) (wrap64 (rd x9_2 2)) (rd x9_2 3) (rd x9_2 4) (wrap64 (rd x9_2 5)) (wrap64 (rd x9_2 6)) false _ A39.out).mono ?_); rintro e w55 ⟨rfl, hb⟩; have HR0 := Aside0.mk (HQ0.out.below hb); have HR1 := Aside0.mk (HQ1.out.below hb); have HR2 := Aside0.mk (below_step HQ2.out hb); clear hb; have pc0 := HR0.out.c0; have pc1 := HR0.out.c1; have pc2 := HR0.out.c2; have pc3 := HR0.out.c3; have pc4 := HR0.out.c4; have pc5 := HR0.out.c5; have pc6 := HR0.out.c6; have qc0 := HR1.out.c0; have qc1 := HR1.out.c1; have qc2 := HR1.out.c2; have qc3 := HR1.out.c3; have qc4 := HR1.out.c4; have qc5 := HR1.out.c5; have qc6 := HR1.out.c6; have qf0 := HR1.out.fr 0; have qf1 := HR1.out.fr 1; have qf2 := HR1.out.fr 2; have qf3 := HR1.out.fr 3; have qf4 := HR1.out.fr 4; have qf5 := HR1.out.fr 5; have qf6 := HR1.out.fr 6))
                                    refine bodyPost_ret (results_ct rfl _ _ gb326 34 #[.int .u64 0, .int .i64 0, .int .i64 0, .int .u64 0, .int .u64 0, .int .i64 0, .int .i64 0] (0, 0) _ rfl (HR1.out.put (.int .u64 0) (.int .i64 0) (.int .i64 0) (.int .u64 0) (.int .u64 0) (.int .i64 0) (.int .i64 0)) Try.underlying34 rfl root_size) rfl ?_
                                    exact ⟨rfl, below_put7 HR2.out GE326.out _ _ _ _ _ _ _⟩
                                · rw [if_neg c38] at H
                                  have c38b1 : (x10_2 != (t328.length : Int)) = true := bne_iff_ne.mpr c38
                                  clear c38
                                  simp only [Option.some.injEq, Prod.mk.injEq] at H
                                  obtain ⟨rfl, rfl, rfl, rfl, rfl, rfl, rfl, rfl⟩ := H
                                  have qc0 := HQ1.out.c0
                                  have qc1 := HQ1.out.c1
                                  have qc2 := HQ1.out.c2
                                  have qc3 := HQ1.out.c3
                                  have qc4 := HQ1.out.c4
                                  have qc5 := HQ1.out.c5
                                  have qc6 := HQ1.out.c6
                                  have qf0 := HQ1.out.fr 0
                                  have qf1 := HQ1.out.fr 1
                                  have qf2 := HQ1.out.fr 2
                                  have qf3 := HQ1.out.fr 3
                                  have qf4 := HQ1.out.fr 4
                                  have qf5 := HQ1.out.fr 5
                                  have qf6 := HQ1.out.fr 6
                                  go_wp2
                                  refine bodyPost_ret (results_ct rfl _ _ gb326 34 #[.int .u64 0, .int .i64 0, .int .i64 0, .int .u64 0, .int .u64 0, .int .i64 0, .int .i64 0] (0, 0) _ rfl (HQ1.out.put (.int .u64 0) (.int .i64 0) (.int .i64 0) (.int .u64 0) (.int .u64 0) (.int .i64 0) (.int .i64 0)) Try.underlying34 rfl root_size) rfl ?_
                                  exact ⟨rfl, below_put7 HQ2.out GE326.out _ _ _ _ _ _ _⟩
                              · rw [if_neg c37] at H
                                exact absurd H (by simp)
                            · rw [if_neg c36] at H
                              exact absurd H (by simp)
                          · rw [if_neg c35] at H
                            exact absurd H (by simp)
                        · rw [if_neg c34] at H
                          exact absurd H (by simp)
                      · rw [if_neg c33] at H
                        exact absurd H (by simp)
                    · rw [if_neg c32] at H
                      exact absurd H (by simp)
                  · rw [if_neg c31] at H
                    exact absurd H (by simp)
          · rw [if_neg c10] at H
            have c10b0 : (t327 == 1) = false := beq_eq_false_iff_ne.mpr c10
            have c10b1 : (t327 != 1) = true := bne_iff_ne.mpr c10
            simp only [Option.some.injEq, Prod.mk.injEq] at H
            obtain ⟨rfl, rfl, rfl, rfl, rfl, rfl, rfl, rfl⟩ := H
            go_wp2_with (first | ((with_reducible refine gate_callee (f := 32) rfl ?_); refine goesL_ (some 26) rfl rfl Try.func32 (by kernel_rfl) rfl #[.int .i64 a0, .slice A1 l1.length c1] rfl (by (try simp only [List.map_toArray, List.map_cons, List.map_nil]); first | done | rfl | (simp only [List.length_drop, List.length_take]; rfl)) ?_; (with_reducible refine (stookref15_Get.calls kj2 a0 _ _ l1 t327 t328 t329 _ ?side1 ?side2 A8.out).mono ?_); (case side1 => repeat (first | exact (Kd.C_below HR1.out HB.out) | (with_reducible refine Kd.C_alloc ?_ _) | (with_reducible refine Kd.C_drewN ?_ _) | (with_reducible refine Kd.C_drew ?_))); (case side2 => exact HC1.out); rintro e w102 ⟨v330, rfl, ho0, hb⟩; refine ⟨_, rfl, ?_⟩; have n0_ := Aside0.mk (Kd.R_lower ho0 (below_size (by repeat (first | (with_reducible first | exact HB.out | apply below_alloc | apply pw_below_drewN | apply below_drew1 | refine below_set ?_ GE326.out) | exact HB.out)))); have n1_ := Aside0.mk (blk_below (g := gb326) (o := .cells #[.int .u64 0, .int .i64 0, .int .i64 0, .int .u64 0, .int .u64 0, .int .i64 0, .int .i64 0] 34 (0, 0)) (by (with_reducible repeat (first | refine blk_drewN ?_ _ | refine blk_drew ?_ | refine blk_alloc ?_ _)); exact BK326.out) hb); have n2_ := Aside0.mk (below_step (by repeat (first | (with_reducible first | exact HB.out | apply below_alloc | apply pw_below_drewN | apply below_drew1 | refine below_set ?_ GE326.out) | exact HB.out)) hb); clear BK326; clear HB; have HO331 := n0_; have BK326 := n1_; have HB := n2_; clear n0_ n1_ n2_; (try clear hb); (try clear hb2); (try clear hk); (try clear hi); (try clear ho0); have hcz103_0 : w102.cell? ⟨gb326, 0, none⟩ = some (.int .u64 0) := (blk_cell BK326.out 0).trans rfl; have hcz103_1 : w102.cell? ⟨gb326, 1, none⟩ = some (.int .i64 0) := (blk_cell BK326.out 1).trans rfl; have hcz103_2 : w102.cell? ⟨gb326, 2, none⟩ = some (.int .i64 0) := (blk_cell BK326.out 2).trans rfl; have hcz103_3 : w102.cell? ⟨gb326, 3, none⟩ = some (.int .u64 0) := (blk_cell BK326.out 3).trans rfl; have hcz103_4 : w102.cell? ⟨gb326, 4, none⟩ = some (.int .u64 0) := (blk_cell BK326.out 4).trans rfl; have hcz103_5 : w102.cell? ⟨gb326, 5, none⟩ = some (.int .i64 0) := (blk_cell BK326.out 5).trans rfl; have hcz103_6 : w102.cell? ⟨gb326, 6, none⟩ = some (.int .i64 0) := (blk_cell BK326.out 6).trans rfl; have hfz103_0 := blk_frozen BK326.out 0; have hfz103_1 := blk_frozen BK326.out 1; have hfz103_2 := blk_frozen BK326.out 2; have hfz103_3 := blk_frozen BK326.out 3; have hfz103_4 := blk_frozen BK326.out 4; have hfz103_5 := blk_frozen BK326.out 5; have hfz103_6 := blk_frozen BK326.out 6))
            refine bodyPost_ret (results_ct rfl _ _ gb326 34 #[.int .u64 0, .int .i64 0, .int .i64 0, .int .u64 0, .int .u64 0, .int .i64 0, .int .i64 0] (0, 0) _ rfl (by (with_reducible repeat (first | refine blk_drewN ?_ _ | refine blk_drew ?_ | refine blk_alloc ?_ _)); refine blk_put (cs := #[.int .u64 0, .int .i64 0, .int .i64 0, .int .u64 0, .int .u64 0, .int .i64 0, .int .i64 0]) ?_ 6 _ rfl; (with_reducible repeat (first | refine blk_drewN ?_ _ | refine blk_drew ?_ | refine blk_alloc ?_ _)); refine blk_put (cs := #[.int .u64 0, .int .i64 0, .int .i64 0, .int .u64 0, .int .u64 0, .int .i64 0, .int .i64 0]) ?_ 5 _ rfl; (with_reducible repeat (first | refine blk_drewN ?_ _ | refine blk_drew ?_ | refine blk_alloc ?_ _)); refine blk_put (cs := #[.int .u64 0, .int .i64 0, .int .i64 0, .int .u64 0, .int .u64 0, .int .i64 0, .int .i64 0]) ?_ 4 _ rfl; (with_reducible repeat (first | refine blk_drewN ?_ _ | refine blk_drew ?_ | refine blk_alloc ?_ _)); refine blk_put (cs := #[.int .u64 0, .int .i64 0, .int .i64 0, .int .u64 0, .int .u64 0, .int .i64 0, .int .i64 0]) ?_ 3 _ rfl; (with_reducible repeat (first | refine blk_drewN ?_ _ | refine blk_drew ?_ | refine blk_alloc ?_ _)); refine blk_put (cs := #[.int .u64 0, .int .i64 0, .int .i64 0, .int .u64 0, .int .u64 0, .int .i64 0, .int .i64 0]) ?_ 2 _ rfl; (with_reducible repeat (first | refine blk_drewN ?_ _ | refine blk_drew ?_ | refine blk_alloc ?_ _)); refine blk_put (cs := #[.int .u64 0, .int .i64 0, .int .i64 0, .int .u64 0, .int .u64 0, .int .i64 0, .int .i64 0]) ?_ 1 _ rfl; (with_reducible repeat (first | refine blk_drewN ?_ _ | refine blk_drew ?_ | refine blk_alloc ?_ _)); refine blk_put (cs := #[.int .u64 0, .int .i64 0, .int .i64 0, .int .u64 0, .int .u64 0, .int .i64 0, .int .i64 0]) ?_ 0 _ rfl; (with_reducible repeat (first | refine blk_drewN ?_ _ | refine blk_drew ?_ | refine blk_alloc ?_ _)); exact BK326.out) Try.underlying34 rfl (by kernel_rfl)) rfl ?_
            exact ⟨by first | rfl | (simp [errW_none, errW_some] <;> rfl) | (simp [*, errW_none, errW_some] <;> rfl), by repeat (first | (with_reducible first | exact HB.out | apply below_alloc | apply pw_below_drewN | apply below_drew1 | refine below_set ?_ GE326.out) | exact HB.out)⟩
        · rw [if_neg c9] at H
          have c9b0 : (t329 == 0) = false := beq_eq_false_iff_ne.mpr c9
          have c9b1 : (t329 != 0) = true := bne_iff_ne.mpr c9
          simp only [Option.some.injEq, Prod.mk.injEq] at H
          obtain ⟨rfl, rfl, rfl, rfl, rfl, rfl, rfl, rfl⟩ := H
          go_wp2_with (first | ((with_reducible refine gate_callee (f := 32) rfl ?_); refine goesL_ (some 26) rfl rfl Try.func32 (by kernel_rfl) rfl #[.int .i64 a0, .slice A1 l1.length c1] rfl (by (try simp only [List.map_toArray, List.map_cons, List.map_nil]); first | done | rfl | (simp only [List.length_drop, List.length_take]; rfl)) ?_; (with_reducible refine (stookref15_Get.calls kj2 a0 _ _ l1 t327 t328 t329 _ ?side1 ?side2 A8.out).mono ?_); (case side1 => repeat (first | exact (Kd.C_below HR1.out HB.out) | (with_reducible refine Kd.C_alloc ?_ _) | (with_reducible refine Kd.C_drewN ?_ _) | (with_reducible refine Kd.C_drew ?_))); (case side2 => exact HC1.out); rintro e w104 ⟨v330, rfl, ho0, hb⟩; refine ⟨_, rfl, ?_⟩; have n0_ := Aside0.mk (Kd.R_lower ho0 (below_size (by repeat (first | (with_reducible first | exact HB.out | apply below_alloc | apply pw_below_drewN | apply below_drew1 | refine below_set ?_ GE326.out) | exact HB.out)))); have n1_ := Aside0.mk (blk_below (g := gb326) (o := .cells #[.int .u64 0, .int .i64 0, .int .i64 0, .int .u64 0, .int .u64 0, .int .i64 0, .int .i64 0] 34 (0, 0)) (by (with_reducible repeat (first | refine blk_drewN ?_ _ | refine blk_drew ?_ | refine blk_alloc ?_ _)); exact BK326.out) hb); have n2_ := Aside0.mk (below_step (by repeat (first | (with_reducible first | exact HB.out | apply below_alloc | apply pw_below_drewN | apply below_drew1 | refine below_set ?_ GE326.out) | exact HB.out)) hb); clear BK326; clear HB; have HO331 := n0_; have BK326 := n1_; have HB := n2_; clear n0_ n1_ n2_; (try clear hb); (try clear hb2); (try clear hk); (try clear hi); (try clear ho0); have hcz105_0 : w104.cell? ⟨gb326, 0, none⟩ = some (.int .u64 0) := (blk_cell BK326.out 0).trans rfl; have hcz105_1 : w104.cell? ⟨gb326, 1, none⟩ = some (.int .i64 0) := (blk_cell BK326.out 1).trans rfl; have hcz105_2 : w104.cell? ⟨gb326, 2, none⟩ = some (.int .i64 0) := (blk_cell BK326.out 2).trans rfl; have hcz105_3 : w104.cell? ⟨gb326, 3, none⟩ = some (.int .u64 0) := (blk_cell BK326.out 3).trans rfl; have hcz105_4 : w104.cell? ⟨gb326, 4, none⟩ = some (.int .u64 0) := (blk_cell BK326.out 4).trans rfl; have hcz105_5 : w104.cell? ⟨gb326, 5, none⟩ = some (.int .i64 0) := (blk_cell BK326.out 5).trans rfl; have hcz105_6 : w104.cell? ⟨gb326, 6, none⟩ = some (.int .i64 0) := (blk_cell BK326.out 6).trans rfl; have hfz105_0 := blk_frozen BK326.out 0; have hfz105_1 := blk_frozen BK326.out 1; have hfz105_2 := blk_frozen BK326.out 2; have hfz105_3 := blk_frozen BK326.out 3; have hfz105_4 := blk_frozen BK326.out 4; have hfz105_5 := blk_frozen BK326.out 5; have hfz105_6 := blk_frozen BK326.out 6))
          refine bodyPost_ret (results_ct rfl _ _ gb326 34 #[.int .u64 0, .int .i64 0, .int .i64 0, .int .u64 0, .int .u64 0, .int .i64 0, .int .i64 0] (0, 0) _ rfl (by (with_reducible repeat (first | refine blk_drewN ?_ _ | refine blk_drew ?_ | refine blk_alloc ?_ _)); refine blk_put (cs := #[.int .u64 0, .int .i64 0, .int .i64 0, .int .u64 0, .int .u64 0, .int .i64 0, .int .i64 0]) ?_ 6 _ rfl; (with_reducible repeat (first | refine blk_drewN ?_ _ | refine blk_drew ?_ | refine blk_alloc ?_ _)); refine blk_put (cs := #[.int .u64 0, .int .i64 0, .int .i64 0, .int .u64 0, .int .u64 0, .int .i64 0, .int .i64 0]) ?_ 5 _ rfl; (with_reducible repeat (first | refine blk_drewN ?_ _ | refine blk_drew ?_ | refine blk_alloc ?_ _)); refine blk_put (cs := #[.int .u64 0, .int .i64 0, .int .i64 0, .int .u64 0, .int .u64 0, .int .i64 0, .int .i64 0]) ?_ 4 _ rfl; (with_reducible repeat (first | refine blk_drewN ?_ _ | refine blk_drew ?_ | refine blk_alloc ?_ _)); refine blk_put (cs := #[.int .u64 0, .int .i64 0, .int .i64 0, .int .u64 0, .int .u64 0, .int .i64 0, .int .i64 0]) ?_ 3 _ rfl; (with_reducible repeat (first | refine blk_drewN ?_ _ | refine blk_drew ?_ | refine blk_alloc ?_ _)); refine blk_put (cs := #[.int .u64 0, .int .i64 0, .int .i64 0, .int .u64 0, .int .u64 0, .int .i64 0, .int .i64 0]) ?_ 2 _ rfl; (with_reducible repeat (first | refine blk_drewN ?_ _ | refine blk_drew ?_ | refine blk_alloc ?_ _)); refine blk_put (cs := #[.int .u64 0, .int .i64 0, .int .i64 0, .int .u64 0, .int .u64 0, .int .i64 0, .int .i64 0]) ?_ 1 _ rfl; (with_reducible repeat (first | refine blk_drewN ?_ _ | refine blk_drew ?_ | refine blk_alloc ?_ _)); refine blk_put (cs := #[.int .u64 0, .int .i64 0, .int .i64 0, .int .u64 0, .int .u64 0, .int .i64 0, .int .i64 0]) ?_ 0 _ rfl; (with_reducible repeat (first | refine blk_drewN ?_ _ | refine blk_drew ?_ | refine blk_alloc ?_ _)); exact BK326.out) Try.underlying34 rfl (by kernel_rfl)) rfl ?_
          exact ⟨by first | rfl | (simp [errW_none, errW_some] <;> rfl) | (simp [*, errW_none, errW_some] <;> rfl), by repeat (first | (with_reducible first | exact HB.out | apply below_alloc | apply pw_below_drewN | apply below_drew1 | refine below_set ?_ GE326.out) | exact HB.out)⟩

end Go.Proofs.Ytkecgmoaojklbaa.PAll
