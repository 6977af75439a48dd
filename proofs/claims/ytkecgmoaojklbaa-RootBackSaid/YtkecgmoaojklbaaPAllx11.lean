-- PRINTED by print.py (a twelfth state) out of the translation. Not trusted: Lean checks it.
import Derived.Test.YtkecgmoaojklbaaPAllx0
import Derived.Test.YtkecgmoaojklbaaPAllx16
namespace Go.Proofs.Ytkecgmoaojklbaa.PAll
open Go.RowKit Go.Proofs.YtkecgmoaojklbaaVW.PrintWords Go.Proofs.YtkecgmoaojklbaaVW.PrintLast Go.Proofs.YtkecgmoaojklbaaVW.PrintMore
attribute [local go_sem] max2_int min2_int max_two min_two max_three min_three max_four min_four   -- for this text's walks alone
set_option linter.unusedVariables false
set_option linter.unusedSimpArgs false

-- NOT PRINTED: function 17 (stookref00_Left)

-- NOT PRINTED: function 4 (stooklaw16_RootPuts)

/-! ### root_Pick: function 19 -/
def root_Pick.j0 : Nat → Int → Int → Bool → Int → Int → Int → Int → Int → Int → Int → Int → Int → Int → Int → Int → Int → Int → Option (Int × Int × Int × Int × Int × Int × Int × Int)
  | 0, _, _, _, _, _, _, _, _, _, _, _, _, _, _, _, _, _ => none
  | k + 1, x7, x9, x20, x399000, x399001, x399002, x399003, x399004, x399005, x399006, x408000, x408001, x408002, x408003, x408004, x408005, x408006 => if x20 = true then (some (0, 0, 0, 0, 0, 0, 0, 7)) else (if x7 = 0 then (if x9 = 0 then (if x408000 > x399000 then (some (x408000, x408001, x408002, x408003, x408004, x408005, x408006, 0)) else (some (x399000, x399001, x399002, x399003, x399004, x399005, x399006, 0))) else (some (x399000, x399001, x399002, x399003, x399004, x399005, x399006, 0))) else (some (x408000, x408001, x408002, x408003, x408004, x408005, x408006, 0)))
def root_Pick.f (k : Nat) (l0 : List Int) (l1 : List Int) : Option (Int × Int × Int × Int × Int × Int × Int × Int) := (root_Get.f k 0 l0).bind fun bt390 => ((root_Get.f k 1 l1).bind fun bt399 => (if bt390.2.2.2.2.2.2.2 = 0 then (root_Pick.j0 k bt390.2.2.2.2.2.2.2 bt399.2.2.2.2.2.2.2 false bt390.1 bt390.2.1 bt390.2.2.1 bt390.2.2.2.1 bt390.2.2.2.2.1 bt390.2.2.2.2.2.1 bt390.2.2.2.2.2.2.1 bt399.1 bt399.2.1 bt399.2.2.1 bt399.2.2.2.1 bt399.2.2.2.2.1 bt399.2.2.2.2.2.1 bt399.2.2.2.2.2.2.1) else (root_Pick.j0 k bt390.2.2.2.2.2.2.2 bt399.2.2.2.2.2.2.2 (bt399.2.2.2.2.2.2.2 != 0) bt390.1 bt390.2.1 bt390.2.2.1 bt390.2.2.2.1 bt390.2.2.2.2.1 bt390.2.2.2.2.2.1 bt390.2.2.2.2.2.2.1 bt399.1 bt399.2.1 bt399.2.2.1 bt399.2.2.2.1 bt399.2.2.2.2.1 bt399.2.2.2.2.2.1 bt399.2.2.2.2.2.2.1)))
theorem root_Pick.mono_l : ∀ k, (∀ y0 y1 y2 y3 y4 y5 y6 y7 y8 y9 y10 y11 y12 y13 y14 y15 y16, LeO (root_Pick.j0 k y0 y1 y2 y3 y4 y5 y6 y7 y8 y9 y10 y11 y12 y13 y14 y15 y16) (root_Pick.j0 (k + 1) y0 y1 y2 y3 y4 y5 y6 y7 y8 y9 y10 y11 y12 y13 y14 y15 y16))
  | 0 => fun _ _ _ _ _ _ _ _ _ _ _ _ _ _ _ _ _ r h => by simp [root_Pick.j0] at h
  | k + 1 => by
    have ih0 := root_Pick.mono_l k
    · intro y0 y1 y2 y3 y4 y5 y6 y7 y8 y9 y10 y11 y12 y13 y14 y15 y16
      unfold root_Pick.j0
      repeat' first
      | (with_reducible exact ih0 _ _ _ _ _ _ _ _ _ _ _ _ _ _ _ _ _)
      | (with_reducible exact root_Get.mono _ _ _)
      | (with_reducible exact LeO.refl _)
      | (with_reducible exact LeO.none _)
      | (with_reducible refine LeO.ite ?_ ?_)
      | (with_reducible refine LeO.bind ?_ (fun _ => ?_))
      | exact ih0 _ _ _ _ _ _ _ _ _ _ _ _ _ _ _ _ _
      | exact root_Get.mono _ _ _
      | exact LeO.none _
      | refine LeO.ite ?_ ?_
      | refine LeO.bind ?_ (fun _ => ?_)
theorem root_Pick.mono : ∀ a0 a1 k, LeO (root_Pick.f k a0 a1) (root_Pick.f (k + 1) a0 a1) := by
  intro a0 a1 k
  have ih0 := root_Pick.mono_l k
  unfold root_Pick.f
  repeat' first
      | (with_reducible exact ih0 _ _ _ _ _ _ _ _ _ _ _ _ _ _ _ _ _)
      | (with_reducible exact root_Get.mono _ _ _)
      | (with_reducible exact LeO.refl _)
      | (with_reducible exact LeO.none _)
      | (with_reducible refine LeO.ite ?_ ?_)
      | (with_reducible refine LeO.bind ?_ (fun _ => ?_))
      | exact ih0 _ _ _ _ _ _ _ _ _ _ _ _ _ _ _ _ _
      | exact root_Get.mono _ _ _
      | exact LeO.none _
      | refine LeO.ite ?_ ?_
      | refine LeO.bind ?_ (fun _ => ?_)
set_option maxHeartbeats 8000000 in
set_option maxRecDepth 100000 in
theorem root_Pick.calls (k : Nat) (A0 : Option Addr) (c0 : Nat) (l0 : List Int) (A1 : Option Addr) (c1 : Nat) (l1 : List Int) (r1 : Int) (r2 : Int) (r3 : Int) (r4 : Int) (r5 : Int) (r6 : Int) (r7 : Int) (r8 : Int) (w : World) (hr0 : Kd.C (Kd.int .u8) w A0 l0.length l0) (hc0 : l0.length ≤ c0) (hr1 : Kd.C (Kd.int .u8) w A1 l1.length l1) (hc1 : l1.length ≤ c1) (h : root_Pick.f k l0 l1 = some (r1, r2, r3, r4, r5, r6, r7, r8)) :
    Calls Try.prog 19 #[.slice A0 l0.length c0, .slice A1 l1.length c1] w fun e w' => e = .returned (.tuple #[.agg #[.int .u64 r1, .int .i64 r2, .int .i64 r3, .int .u64 r4, .int .u64 r5, .int .i64 r6, .int .i64 r7], .int .i64 r8]) ∧ Below w.heap.size w w' := by
  have hu34 := Try.underlying34
  have HR0 := Aside0.mk hr0
  have HC0 := Aside0.mk hc0
  clear hr0 hc0
  have HR1 := Aside0.mk hr1
  have HC1 := Aside0.mk hc1
  clear hr1 hc1
  have HB := Aside0.mk (Below.refl w.heap.size w)
  have H : ((root_Get.f k 0 l0).bind fun bt390 => ((root_Get.f k 1 l1).bind fun bt399 => (if bt390.2.2.2.2.2.2.2 = 0 then (root_Pick.j0 k bt390.2.2.2.2.2.2.2 bt399.2.2.2.2.2.2.2 false bt390.1 bt390.2.1 bt390.2.2.1 bt390.2.2.2.1 bt390.2.2.2.2.1 bt390.2.2.2.2.2.1 bt390.2.2.2.2.2.2.1 bt399.1 bt399.2.1 bt399.2.2.1 bt399.2.2.2.1 bt399.2.2.2.2.1 bt399.2.2.2.2.2.1 bt399.2.2.2.2.2.2.1) else (root_Pick.j0 k bt390.2.2.2.2.2.2.2 bt399.2.2.2.2.2.2.2 (bt399.2.2.2.2.2.2.2 != 0) bt390.1 bt390.2.1 bt390.2.2.1 bt390.2.2.2.1 bt390.2.2.2.2.1 bt390.2.2.2.2.2.1 bt390.2.2.2.2.2.2.1 bt399.1 bt399.2.1 bt399.2.2.1 bt399.2.2.2.1 bt399.2.2.2.2.1 bt399.2.2.2.2.2.1 bt399.2.2.2.2.2.2.1)))) = some (r1, r2, r3, r4, r5, r6, r7, r8) := h
  clear h
  replace H := Option.bind_eq_some_iff.mp H
  obtain ⟨⟨t390, t391, t392, t393, t394, t395, t396, t397⟩, A30, H⟩ := H
  replace H : ((root_Get.f k 1 l1).bind fun bt399 => (if t397 = 0 then (root_Pick.j0 k t397 bt399.2.2.2.2.2.2.2 false t390 t391 t392 t393 t394 t395 t396 bt399.1 bt399.2.1 bt399.2.2.1 bt399.2.2.2.1 bt399.2.2.2.2.1 bt399.2.2.2.2.2.1 bt399.2.2.2.2.2.2.1) else (root_Pick.j0 k t397 bt399.2.2.2.2.2.2.2 (bt399.2.2.2.2.2.2.2 != 0) t390 t391 t392 t393 t394 t395 t396 bt399.1 bt399.2.1 bt399.2.2.1 bt399.2.2.2.1 bt399.2.2.2.2.1 bt399.2.2.2.2.2.1 bt399.2.2.2.2.2.2.1))) = some (r1, r2, r3, r4, r5, r6, r7, r8) := H
  have A3 := Aside0.mk A30
  clear A30
  replace H := Option.bind_eq_some_iff.mp H
  obtain ⟨⟨t399, t400, t401, t402, t403, t404, t405, t406⟩, A40, H⟩ := H
  replace H : (if t397 = 0 then (root_Pick.j0 k t397 t406 false t390 t391 t392 t393 t394 t395 t396 t399 t400 t401 t402 t403 t404 t405) else (root_Pick.j0 k t397 t406 (t406 != 0) t390 t391 t392 t393 t394 t395 t396 t399 t400 t401 t402 t403 t404 t405)) = some (r1, r2, r3, r4, r5, r6, r7, r8) := H
  have A4 := Aside0.mk A40
  clear A40
  have HC5 := Aside0.mk H
  clear H
  go_enter Try.func19, Try.ntmps19
  go_upto_region 3 with (first | ((with_reducible refine gate_dst (N := 4) rfl ?_); refine box_event ?hg (N := 4) ?hd (cs := #[.int .u64 0, .int .i64 0, .int .i64 0, .int .u64 0, .int .u64 0, .int .i64 0, .int .i64 0]) (t := 34) ?hr ?_; (case hd => rfl); (case hg => rfl); (case hr => first | (go_simp; done) | (go_simp; rfl)); intro gb389 hg w6 hbox hb; have n0_ := Aside0.mk (below_step (by repeat (first | (with_reducible first | exact HB.out | apply below_alloc | apply pw_below_drewN | apply below_drew1) | exact HB.out)) hb); have n1_ := Aside0.mk (hbox); have n2_ := Aside0.mk ((by rw [hg]; exact (below_size (by repeat (first | (with_reducible first | exact HB.out | apply below_alloc | apply pw_below_drewN | apply below_drew1) | exact HB.out))) : w.heap.size ≤ gb389)); have n3_ := Aside0.mk ((by rw [hg]; exact (below_size (by repeat (first | (with_reducible first | exact HB.out | apply below_alloc | apply pw_below_drewN | apply below_drew1) | exact HB.out))) : w.heap.size ≤ gb389)); clear HB; have HB := n0_; have BK389 := n1_; have GW389 := n2_; have GE389 := n3_; clear n0_ n1_ n2_ n3_; clear hb hbox hg) | ((with_reducible refine gate_callee (f := 15) rfl ?_); refine goesL_ (some 12) rfl rfl Try.func15 (by kernel_rfl) rfl #[.int .i64 0, .slice A0 l0.length c0] rfl (by (try simp only [List.map_toArray, List.map_cons, List.map_nil]); first | done | rfl | (simp only [List.length_drop, List.length_take]; rfl)) ?_; (with_reducible refine (root_Get.calls k 0 _ _ l0 t390 t391 t392 t393 t394 t395 t396 t397 _ ?side1 ?side2 A3.out).mono ?_); (case side1 => repeat (first | exact (Kd.C_below HR0.out HB.out) | (with_reducible refine Kd.C_alloc ?_ _) | (with_reducible refine Kd.C_drewN ?_ _) | (with_reducible refine Kd.C_drew ?_))); (case side2 => exact HC0.out); rintro e w7 ⟨rfl, hb⟩; refine ⟨_, rfl, ?_⟩; have n0_ := Aside0.mk (blk_below (g := gb389) (o := .cells #[.int .u64 0, .int .i64 0, .int .i64 0, .int .u64 0, .int .u64 0, .int .i64 0, .int .i64 0] 34 (0, 0)) (by (with_reducible repeat (first | refine blk_drewN ?_ _ | refine blk_drew ?_ | refine blk_alloc ?_ _)); exact BK389.out) hb); have n1_ := Aside0.mk (below_step (by repeat (first | (with_reducible first | exact HB.out | apply below_alloc | apply pw_below_drewN | apply below_drew1 | refine below_set ?_ GE389.out) | exact HB.out)) hb); clear BK389; clear HB; have BK389 := n0_; have HB := n1_; clear n0_ n1_; (try clear hb); (try clear hb2); (try clear hk); (try clear hi)) | ((with_reducible refine gate_dst (N := 6) rfl ?_); refine box_event ?hg (N := 6) ?hd (cs := #[.int .u64 0, .int .i64 0, .int .i64 0, .int .u64 0, .int .u64 0, .int .i64 0, .int .i64 0]) (t := 34) ?hr ?_; (case hd => rfl); (case hg => rfl); (case hr => first | (go_simp; done) | (go_simp; rfl)); intro gb398 hg w8 hbox hb; have n0_ := Aside0.mk (blk_below (g := gb389) (o := .cells #[.int .u64 0, .int .i64 0, .int .i64 0, .int .u64 0, .int .u64 0, .int .i64 0, .int .i64 0] 34 (0, 0)) (by (with_reducible repeat (first | refine blk_drewN ?_ _ | refine blk_drew ?_ | refine blk_alloc ?_ _)); exact BK389.out) hb); have n1_ := Aside0.mk (below_step (by repeat (first | (with_reducible first | exact HB.out | apply below_alloc | apply pw_below_drewN | apply below_drew1 | refine below_set ?_ GE389.out) | exact HB.out)) hb); have n2_ := Aside0.mk (hbox); have n3_ := Aside0.mk ((by rw [hg]; exact (below_size (by repeat (first | (with_reducible first | exact HB.out | apply below_alloc | apply pw_below_drewN | apply below_drew1 | refine below_set ?_ GE389.out) | exact HB.out))) : w.heap.size ≤ gb398)); have n4_ := Aside0.mk ((by rw [hg]; exact (below_size (by repeat (first | (with_reducible first | exact HB.out | apply below_alloc | apply pw_below_drewN | apply below_drew1 | refine below_set ?_ GE389.out) | exact HB.out))) : w.heap.size ≤ gb398)); have n5_ := Aside0.mk ((by rw [hg]; exact Nat.ne_of_lt (blk_lt (g := gb389) (o := .cells #[.int .u64 0, .int .i64 0, .int .i64 0, .int .u64 0, .int .u64 0, .int .i64 0, .int .i64 0] 34 (0, 0)) (by (with_reducible repeat (first | refine blk_drewN ?_ _ | refine blk_drew ?_ | refine blk_alloc ?_ _)); exact BK389.out)) : gb389 ≠ gb398)); have n6_ := Aside0.mk ((by rw [hg]; exact Nat.ne_of_gt (blk_lt (g := gb389) (o := .cells #[.int .u64 0, .int .i64 0, .int .i64 0, .int .u64 0, .int .u64 0, .int .i64 0, .int .i64 0] 34 (0, 0)) (by (with_reducible repeat (first | refine blk_drewN ?_ _ | refine blk_drew ?_ | refine blk_alloc ?_ _)); exact BK389.out)) : gb398 ≠ gb389)); clear BK389; clear HB; have BK389 := n0_; have HB := n1_; have BK398 := n2_; have GW398 := n3_; have GE398 := n4_; have NB389_398 := n5_; have NB398_389 := n6_; clear n0_ n1_ n2_ n3_ n4_ n5_ n6_; clear hb hbox hg; have hnb9 := NB398_389.out; have hnc9 := NB389_398.out; have hcz10_0 : w8.cell? ⟨gb398, 0, none⟩ = some (.int .u64 0) := (blk_cell BK398.out 0).trans rfl; have hcz10_1 : w8.cell? ⟨gb398, 1, none⟩ = some (.int .i64 0) := (blk_cell BK398.out 1).trans rfl; have hcz10_2 : w8.cell? ⟨gb398, 2, none⟩ = some (.int .i64 0) := (blk_cell BK398.out 2).trans rfl; have hcz10_3 : w8.cell? ⟨gb398, 3, none⟩ = some (.int .u64 0) := (blk_cell BK398.out 3).trans rfl; have hcz10_4 : w8.cell? ⟨gb398, 4, none⟩ = some (.int .u64 0) := (blk_cell BK398.out 4).trans rfl; have hcz10_5 : w8.cell? ⟨gb398, 5, none⟩ = some (.int .i64 0) := (blk_cell BK398.out 5).trans rfl; have hcz10_6 : w8.cell? ⟨gb398, 6, none⟩ = some (.int .i64 0) := (blk_cell BK398.out 6).trans rfl; have hfz10_0 := blk_frozen BK398.out 0; have hfz10_1 := blk_frozen BK398.out 1; have hfz10_2 := blk_frozen BK398.out 2; have hfz10_3 := blk_frozen BK398.out 3; have hfz10_4 := blk_frozen BK398.out 4; have hfz10_5 := blk_frozen BK398.out 5; have hfz10_6 := blk_frozen BK398.out 6) | ((with_reducible refine gate_callee (f := 15) rfl ?_); refine goesL_ (some 17) rfl rfl Try.func15 (by kernel_rfl) rfl #[.int .i64 1, .slice A1 l1.length c1] rfl (by (try simp only [List.map_toArray, List.map_cons, List.map_nil]); first | done | rfl | (simp only [List.length_drop, List.length_take]; rfl)) ?_; (with_reducible refine (root_Get.calls k 1 _ _ l1 t399 t400 t401 t402 t403 t404 t405 t406 _ ?side1 ?side2 A4.out).mono ?_); (case side1 => exact Kd.C_below HR1.out (by repeat (first | (with_reducible first | exact HB.out | apply below_alloc | apply pw_below_drewN | apply below_drew1 | refine below_set ?_ GE389.out | refine below_set ?_ GE398.out) | exact HB.out))); (case side2 => exact HC1.out); rintro e w11 ⟨rfl, hb⟩; refine ⟨_, rfl, ?_⟩; have n0_ := Aside0.mk (blk_below (g := gb389) (o := .cells #[.int .u64 0, .int .i64 0, .int .i64 0, .int .u64 0, .int .u64 0, .int .i64 0, .int .i64 0] 34 (0, 0)) (by (with_reducible repeat (first | refine blk_drewN ?_ _ | refine blk_drew ?_ | refine blk_alloc ?_ _)); refine blk_far ?_ NB389_398.out _; (with_reducible repeat (first | refine blk_drewN ?_ _ | refine blk_drew ?_ | refine blk_alloc ?_ _)); refine blk_far ?_ NB389_398.out _; (with_reducible repeat (first | refine blk_drewN ?_ _ | refine blk_drew ?_ | refine blk_alloc ?_ _)); refine blk_far ?_ NB389_398.out _; (with_reducible repeat (first | refine blk_drewN ?_ _ | refine blk_drew ?_ | refine blk_alloc ?_ _)); refine blk_far ?_ NB389_398.out _; (with_reducible repeat (first | refine blk_drewN ?_ _ | refine blk_drew ?_ | refine blk_alloc ?_ _)); refine blk_far ?_ NB389_398.out _; (with_reducible repeat (first | refine blk_drewN ?_ _ | refine blk_drew ?_ | refine blk_alloc ?_ _)); refine blk_far ?_ NB389_398.out _; (with_reducible repeat (first | refine blk_drewN ?_ _ | refine blk_drew ?_ | refine blk_alloc ?_ _)); refine blk_far ?_ NB389_398.out _; (with_reducible repeat (first | refine blk_drewN ?_ _ | refine blk_drew ?_ | refine blk_alloc ?_ _)); exact BK389.out) hb); have n1_ := Aside0.mk (blk_below (g := gb398) (o := .cells #[.int .u64 t390, .int .i64 t391, .int .i64 t392, .int .u64 t393, .int .u64 t394, .int .i64 t395, .int .i64 t396] 34 (0, 0)) (by (with_reducible repeat (first | refine blk_drewN ?_ _ | refine blk_drew ?_ | refine blk_alloc ?_ _)); refine blk_put (cs := #[.int .u64 t390, .int .i64 t391, .int .i64 t392, .int .u64 t393, .int .u64 t394, .int .i64 t395, .int .i64 0]) ?_ 6 _ rfl; (with_reducible repeat (first | refine blk_drewN ?_ _ | refine blk_drew ?_ | refine blk_alloc ?_ _)); refine blk_put (cs := #[.int .u64 t390, .int .i64 t391, .int .i64 t392, .int .u64 t393, .int .u64 t394, .int .i64 0, .int .i64 0]) ?_ 5 _ rfl; (with_reducible repeat (first | refine blk_drewN ?_ _ | refine blk_drew ?_ | refine blk_alloc ?_ _)); refine blk_put (cs := #[.int .u64 t390, .int .i64 t391, .int .i64 t392, .int .u64 t393, .int .u64 0, .int .i64 0, .int .i64 0]) ?_ 4 _ rfl; (with_reducible repeat (first | refine blk_drewN ?_ _ | refine blk_drew ?_ | refine blk_alloc ?_ _)); refine blk_put (cs := #[.int .u64 t390, .int .i64 t391, .int .i64 t392, .int .u64 0, .int .u64 0, .int .i64 0, .int .i64 0]) ?_ 3 _ rfl; (with_reducible repeat (first | refine blk_drewN ?_ _ | refine blk_drew ?_ | refine blk_alloc ?_ _)); refine blk_put (cs := #[.int .u64 t390, .int .i64 t391, .int .i64 0, .int .u64 0, .int .u64 0, .int .i64 0, .int .i64 0]) ?_ 2 _ rfl; (with_reducible repeat (first | refine blk_drewN ?_ _ | refine blk_drew ?_ | refine blk_alloc ?_ _)); refine blk_put (cs := #[.int .u64 t390, .int .i64 0, .int .i64 0, .int .u64 0, .int .u64 0, .int .i64 0, .int .i64 0]) ?_ 1 _ rfl; (with_reducible repeat (first | refine blk_drewN ?_ _ | refine blk_drew ?_ | refine blk_alloc ?_ _)); refine blk_put (cs := #[.int .u64 0, .int .i64 0, .int .i64 0, .int .u64 0, .int .u64 0, .int .i64 0, .int .i64 0]) ?_ 0 _ rfl; (with_reducible repeat (first | refine blk_drewN ?_ _ | refine blk_drew ?_ | refine blk_alloc ?_ _)); exact BK398.out) hb); have n2_ := Aside0.mk (below_step (by repeat (first | (with_reducible first | exact HB.out | apply below_alloc | apply pw_below_drewN | apply below_drew1 | refine below_set ?_ GE389.out | refine below_set ?_ GE398.out) | exact HB.out)) hb); clear BK389; clear BK398; clear HB; have BK389 := n0_; have BK398 := n1_; have HB := n2_; clear n0_ n1_ n2_; (try clear hb); (try clear hb2); (try clear hk); (try clear hi)) | ((with_reducible refine gate_dst (N := 8) rfl ?_); refine box_event ?hg (N := 8) ?hd (cs := #[.int .u64 0, .int .i64 0, .int .i64 0, .int .u64 0, .int .u64 0, .int .i64 0, .int .i64 0]) (t := 34) ?hr ?_; (case hd => rfl); (case hg => rfl); (case hr => first | (go_simp; done) | (go_simp; rfl)); intro gb407 hg w12 hbox hb; have n0_ := Aside0.mk (blk_below (g := gb389) (o := .cells #[.int .u64 0, .int .i64 0, .int .i64 0, .int .u64 0, .int .u64 0, .int .i64 0, .int .i64 0] 34 (0, 0)) (by (with_reducible repeat (first | refine blk_drewN ?_ _ | refine blk_drew ?_ | refine blk_alloc ?_ _)); exact BK389.out) hb); have n1_ := Aside0.mk (blk_below (g := gb398) (o := .cells #[.int .u64 t390, .int .i64 t391, .int .i64 t392, .int .u64 t393, .int .u64 t394, .int .i64 t395, .int .i64 t396] 34 (0, 0)) (by (with_reducible repeat (first | refine blk_drewN ?_ _ | refine blk_drew ?_ | refine blk_alloc ?_ _)); exact BK398.out) hb); have n2_ := Aside0.mk (below_step (by repeat (first | (with_reducible first | exact HB.out | apply below_alloc | apply pw_below_drewN | apply below_drew1 | refine below_set ?_ GE389.out | refine below_set ?_ GE398.out) | exact HB.out)) hb); have n3_ := Aside0.mk (hbox); have n4_ := Aside0.mk ((by rw [hg]; exact (below_size (by repeat (first | (with_reducible first | exact HB.out | apply below_alloc | apply pw_below_drewN | apply below_drew1 | refine below_set ?_ GE389.out | refine below_set ?_ GE398.out) | exact HB.out))) : w.heap.size ≤ gb407)); have n5_ := Aside0.mk ((by rw [hg]; exact (below_size (by repeat (first | (with_reducible first | exact HB.out | apply below_alloc | apply pw_below_drewN | apply below_drew1 | refine below_set ?_ GE389.out | refine below_set ?_ GE398.out) | exact HB.out))) : w.heap.size ≤ gb407)); have n6_ := Aside0.mk ((by rw [hg]; exact Nat.ne_of_lt (blk_lt (g := gb389) (o := .cells #[.int .u64 0, .int .i64 0, .int .i64 0, .int .u64 0, .int .u64 0, .int .i64 0, .int .i64 0] 34 (0, 0)) (by (with_reducible repeat (first | refine blk_drewN ?_ _ | refine blk_drew ?_ | refine blk_alloc ?_ _)); exact BK389.out)) : gb389 ≠ gb407)); have n7_ := Aside0.mk ((by rw [hg]; exact Nat.ne_of_gt (blk_lt (g := gb389) (o := .cells #[.int .u64 0, .int .i64 0, .int .i64 0, .int .u64 0, .int .u64 0, .int .i64 0, .int .i64 0] 34 (0, 0)) (by (with_reducible repeat (first | refine blk_drewN ?_ _ | refine blk_drew ?_ | refine blk_alloc ?_ _)); exact BK389.out)) : gb407 ≠ gb389)); have n8_ := Aside0.mk ((by rw [hg]; exact Nat.ne_of_lt (blk_lt (g := gb398) (o := .cells #[.int .u64 t390, .int .i64 t391, .int .i64 t392, .int .u64 t393, .int .u64 t394, .int .i64 t395, .int .i64 t396] 34 (0, 0)) (by (with_reducible repeat (first | refine blk_drewN ?_ _ | refine blk_drew ?_ | refine blk_alloc ?_ _)); exact BK398.out)) : gb398 ≠ gb407)); have n9_ := Aside0.mk ((by rw [hg]; exact Nat.ne_of_gt (blk_lt (g := gb398) (o := .cells #[.int .u64 t390, .int .i64 t391, .int .i64 t392, .int .u64 t393, .int .u64 t394, .int .i64 t395, .int .i64 t396] 34 (0, 0)) (by (with_reducible repeat (first | refine blk_drewN ?_ _ | refine blk_drew ?_ | refine blk_alloc ?_ _)); exact BK398.out)) : gb407 ≠ gb398)); clear BK389; clear BK398; clear HB; have BK389 := n0_; have BK398 := n1_; have HB := n2_; have BK407 := n3_; have GW407 := n4_; have GE407 := n5_; have NB389_407 := n6_; have NB407_389 := n7_; have NB398_407 := n8_; have NB407_398 := n9_; clear n0_ n1_ n2_ n3_ n4_ n5_ n6_ n7_ n8_ n9_; clear hb hbox hg; have hnb13 := NB407_389.out; have hnc13 := NB389_407.out; have hnb14 := NB407_398.out; have hnc14 := NB398_407.out; have hcz15_0 : w12.cell? ⟨gb407, 0, none⟩ = some (.int .u64 0) := (blk_cell BK407.out 0).trans rfl; have hcz15_1 : w12.cell? ⟨gb407, 1, none⟩ = some (.int .i64 0) := (blk_cell BK407.out 1).trans rfl; have hcz15_2 : w12.cell? ⟨gb407, 2, none⟩ = some (.int .i64 0) := (blk_cell BK407.out 2).trans rfl; have hcz15_3 : w12.cell? ⟨gb407, 3, none⟩ = some (.int .u64 0) := (blk_cell BK407.out 3).trans rfl; have hcz15_4 : w12.cell? ⟨gb407, 4, none⟩ = some (.int .u64 0) := (blk_cell BK407.out 4).trans rfl; have hcz15_5 : w12.cell? ⟨gb407, 5, none⟩ = some (.int .i64 0) := (blk_cell BK407.out 5).trans rfl; have hcz15_6 : w12.cell? ⟨gb407, 6, none⟩ = some (.int .i64 0) := (blk_cell BK407.out 6).trans rfl; have hfz15_0 := blk_frozen BK407.out 0; have hfz15_1 := blk_frozen BK407.out 1; have hfz15_2 := blk_frozen BK407.out 2; have hfz15_3 := blk_frozen BK407.out 3; have hfz15_4 := blk_frozen BK407.out 4; have hfz15_5 := blk_frozen BK407.out 5; have hfz15_6 := blk_frozen BK407.out 6))
  (try simp only [Act.put, List.setIfInBounds_toArray, List.set_cons_zero, List.set_cons_succ])
  go_cut [20] (fun v20 wc => ∃ (kq : Nat) (x20_4 : Bool), v20 = .bool x20_4 ∧ Aside0 (root_Pick.j0 kq t397 t406 x20_4 t390 t391 t392 t393 t394 t395 t396 t399 t400 t401 t402 t403 t404 t405 = some (r1, r2, r3, r4, r5, r6, r7, r8)) ∧ Aside0 (kq ≤ k) ∧ Aside0 (wc.heap[gb389]? = some (.cells #[.int .u64 0, .int .i64 0, .int .i64 0, .int .u64 0, .int .u64 0, .int .i64 0, .int .i64 0] 34 (0, 0))) ∧ Aside0 (wc.heap[gb398]? = some (.cells #[.int .u64 t390, .int .i64 t391, .int .i64 t392, .int .u64 t393, .int .u64 t394, .int .i64 t395, .int .i64 t396] 34 (0, 0))) ∧ Aside0 (wc.heap[gb407]? = some (.cells #[.int .u64 t399, .int .i64 t400, .int .i64 t401, .int .u64 t402, .int .u64 t403, .int .i64 t404, .int .i64 t405] 34 (0, 0))) ∧ Aside0 (Below w.heap.size w wc))
  case first =>
    have H := HC5.out
    clear HC5
    by_cases c16 : t397 = 0
    · rw [if_pos c16] at H
      have c16b0 : (t397 == 0) = true := beq_iff_eq.mpr c16
      have c16b1 : (t397 != 0) = false := bne_eq_false_iff_eq.mpr c16
      clear c16
      (first | rw [c16b0] | (simp only [i64_w, i32_w]; rw [c16b0]) | skip)
      have H' := Aside0.mk H
      clear H
      go_wp2
      go_meet
      case rel => exact ⟨_, (false), (by first | rfl | (simp; done) | (simp [*]; done)), H', ⟨by first | omega | exact Nat.le_refl _⟩, ⟨by (with_reducible repeat (first | refine blk_drewN ?_ _ | refine blk_drew ?_ | refine blk_alloc ?_ _)); refine blk_far ?_ NB389_407.out _; (with_reducible repeat (first | refine blk_drewN ?_ _ | refine blk_drew ?_ | refine blk_alloc ?_ _)); refine blk_far ?_ NB389_407.out _; (with_reducible repeat (first | refine blk_drewN ?_ _ | refine blk_drew ?_ | refine blk_alloc ?_ _)); refine blk_far ?_ NB389_407.out _; (with_reducible repeat (first | refine blk_drewN ?_ _ | refine blk_drew ?_ | refine blk_alloc ?_ _)); refine blk_far ?_ NB389_407.out _; (with_reducible repeat (first | refine blk_drewN ?_ _ | refine blk_drew ?_ | refine blk_alloc ?_ _)); refine blk_far ?_ NB389_407.out _; (with_reducible repeat (first | refine blk_drewN ?_ _ | refine blk_drew ?_ | refine blk_alloc ?_ _)); refine blk_far ?_ NB389_407.out _; (with_reducible repeat (first | refine blk_drewN ?_ _ | refine blk_drew ?_ | refine blk_alloc ?_ _)); refine blk_far ?_ NB389_407.out _; (with_reducible repeat (first | refine blk_drewN ?_ _ | refine blk_drew ?_ | refine blk_alloc ?_ _)); exact BK389.out⟩, ⟨by (with_reducible repeat (first | refine blk_drewN ?_ _ | refine blk_drew ?_ | refine blk_alloc ?_ _)); refine blk_far ?_ NB398_407.out _; (with_reducible repeat (first | refine blk_drewN ?_ _ | refine blk_drew ?_ | refine blk_alloc ?_ _)); refine blk_far ?_ NB398_407.out _; (with_reducible repeat (first | refine blk_drewN ?_ _ | refine blk_drew ?_ | refine blk_alloc ?_ _)); refine blk_far ?_ NB398_407.out _; (with_reducible repeat (first | refine blk_drewN ?_ _ | refine blk_drew ?_ | refine blk_alloc ?_ _)); refine blk_far ?_ NB398_407.out _; (with_reducible repeat (first | refine blk_drewN ?_ _ | refine blk_drew ?_ | refine blk_alloc ?_ _)); refine blk_far ?_ NB398_407.out _; (with_reducible repeat (first | refine blk_drewN ?_ _ | refine blk_drew ?_ | refine blk_alloc ?_ _)); refine blk_far ?_ NB398_407.out _; (with_reducible repeat (first | refine blk_drewN ?_ _ | refine blk_drew ?_ | refine blk_alloc ?_ _)); refine blk_far ?_ NB398_407.out _; (with_reducible repeat (first | refine blk_drewN ?_ _ | refine blk_drew ?_ | refine blk_alloc ?_ _)); exact BK398.out⟩, ⟨by (with_reducible repeat (first | refine blk_drewN ?_ _ | refine blk_drew ?_ | refine blk_alloc ?_ _)); refine blk_put (cs := #[.int .u64 t399, .int .i64 t400, .int .i64 t401, .int .u64 t402, .int .u64 t403, .int .i64 t404, .int .i64 0]) ?_ 6 _ rfl; (with_reducible repeat (first | refine blk_drewN ?_ _ | refine blk_drew ?_ | refine blk_alloc ?_ _)); refine blk_put (cs := #[.int .u64 t399, .int .i64 t400, .int .i64 t401, .int .u64 t402, .int .u64 t403, .int .i64 0, .int .i64 0]) ?_ 5 _ rfl; (with_reducible repeat (first | refine blk_drewN ?_ _ | refine blk_drew ?_ | refine blk_alloc ?_ _)); refine blk_put (cs := #[.int .u64 t399, .int .i64 t400, .int .i64 t401, .int .u64 t402, .int .u64 0, .int .i64 0, .int .i64 0]) ?_ 4 _ rfl; (with_reducible repeat (first | refine blk_drewN ?_ _ | refine blk_drew ?_ | refine blk_alloc ?_ _)); refine blk_put (cs := #[.int .u64 t399, .int .i64 t400, .int .i64 t401, .int .u64 0, .int .u64 0, .int .i64 0, .int .i64 0]) ?_ 3 _ rfl; (with_reducible repeat (first | refine blk_drewN ?_ _ | refine blk_drew ?_ | refine blk_alloc ?_ _)); refine blk_put (cs := #[.int .u64 t399, .int .i64 t400, .int .i64 0, .int .u64 0, .int .u64 0, .int .i64 0, .int .i64 0]) ?_ 2 _ rfl; (with_reducible repeat (first | refine blk_drewN ?_ _ | refine blk_drew ?_ | refine blk_alloc ?_ _)); refine blk_put (cs := #[.int .u64 t399, .int .i64 0, .int .i64 0, .int .u64 0, .int .u64 0, .int .i64 0, .int .i64 0]) ?_ 1 _ rfl; (with_reducible repeat (first | refine blk_drewN ?_ _ | refine blk_drew ?_ | refine blk_alloc ?_ _)); refine blk_put (cs := #[.int .u64 0, .int .i64 0, .int .i64 0, .int .u64 0, .int .u64 0, .int .i64 0, .int .i64 0]) ?_ 0 _ rfl; (with_reducible repeat (first | refine blk_drewN ?_ _ | refine blk_drew ?_ | refine blk_alloc ?_ _)); exact BK407.out⟩, ⟨by repeat (first | (with_reducible first | exact HB.out | apply below_alloc | apply pw_below_drewN | apply below_drew1 | refine below_set ?_ GE389.out | refine below_set ?_ GE398.out | refine below_set ?_ GE407.out) | exact HB.out)⟩⟩
    · rw [if_neg c16] at H
      have c16b0 : (t397 == 0) = false := beq_eq_false_iff_ne.mpr c16
      have c16b1 : (t397 != 0) = true := bne_iff_ne.mpr c16
      (first | rw [c16b0] | (simp only [i64_w, i32_w]; rw [c16b0]) | skip)
      have H' := Aside0.mk H
      clear H
      go_wp2
      go_meet
      case rel => exact ⟨_, ((t406 != 0)), (by first | rfl | (simp; done) | (simp [*]; done)), H', ⟨by first | omega | exact Nat.le_refl _⟩, ⟨by (with_reducible repeat (first | refine blk_drewN ?_ _ | refine blk_drew ?_ | refine blk_alloc ?_ _)); refine blk_far ?_ NB389_407.out _; (with_reducible repeat (first | refine blk_drewN ?_ _ | refine blk_drew ?_ | refine blk_alloc ?_ _)); refine blk_far ?_ NB389_407.out _; (with_reducible repeat (first | refine blk_drewN ?_ _ | refine blk_drew ?_ | refine blk_alloc ?_ _)); refine blk_far ?_ NB389_407.out _; (with_reducible repeat (first | refine blk_drewN ?_ _ | refine blk_drew ?_ | refine blk_alloc ?_ _)); refine blk_far ?_ NB389_407.out _; (with_reducible repeat (first | refine blk_drewN ?_ _ | refine blk_drew ?_ | refine blk_alloc ?_ _)); refine blk_far ?_ NB389_407.out _; (with_reducible repeat (first | refine blk_drewN ?_ _ | refine blk_drew ?_ | refine blk_alloc ?_ _)); refine blk_far ?_ NB389_407.out _; (with_reducible repeat (first | refine blk_drewN ?_ _ | refine blk_drew ?_ | refine blk_alloc ?_ _)); refine blk_far ?_ NB389_407.out _; (with_reducible repeat (first | refine blk_drewN ?_ _ | refine blk_drew ?_ | refine blk_alloc ?_ _)); exact BK389.out⟩, ⟨by (with_reducible repeat (first | refine blk_drewN ?_ _ | refine blk_drew ?_ | refine blk_alloc ?_ _)); refine blk_far ?_ NB398_407.out _; (with_reducible repeat (first | refine blk_drewN ?_ _ | refine blk_drew ?_ | refine blk_alloc ?_ _)); refine blk_far ?_ NB398_407.out _; (with_reducible repeat (first | refine blk_drewN ?_ _ | refine blk_drew ?_ | refine blk_alloc ?_ _)); refine blk_far ?_ NB398_407.out _; (with_reducible repeat (first | refine blk_drewN ?_ _ | refine blk_drew ?_ | refine blk_alloc ?_ _)); refine blk_far ?_ NB398_407.out _; (with_reducible repeat (first | refine blk_drewN ?_ _ | refine blk_drew ?_ | refine blk_alloc ?_ _)); refine blk_far ?_ NB398_407.out _; (with_reducible repeat (first | refine blk_drewN ?_ _ | refine blk_drew ?_ | refine blk_alloc ?_ _)); refine blk_far ?_ NB398_407.out _; (with_reducible repeat (first | refine blk_drewN ?_ _ | refine blk_drew ?_ | refine blk_alloc ?_ _)); refine blk_far ?_ NB398_407.out _; (with_reducible repeat (first | refine blk_drewN ?_ _ | refine blk_drew ?_ | refine blk_alloc ?_ _)); exact BK398.out⟩, ⟨by (with_reducible repeat (first | refine blk_drewN ?_ _ | refine blk_drew ?_ | refine blk_alloc ?_ _)); refine blk_put (cs := #[.int .u64 t399, .int .i64 t400, .int .i64 t401, .int .u64 t402, .int .u64 t403, .int .i64 t404, .int .i64 0]) ?_ 6 _ rfl; (with_reducible repeat (first | refine blk_drewN ?_ _ | refine blk_drew ?_ | refine blk_alloc ?_ _)); refine blk_put (cs := #[.int .u64 t399, .int .i64 t400, .int .i64 t401, .int .u64 t402, .int .u64 t403, .int .i64 0, .int .i64 0]) ?_ 5 _ rfl; (with_reducible repeat (first | refine blk_drewN ?_ _ | refine blk_drew ?_ | refine blk_alloc ?_ _)); refine blk_put (cs := #[.int .u64 t399, .int .i64 t400, .int .i64 t401, .int .u64 t402, .int .u64 0, .int .i64 0, .int .i64 0]) ?_ 4 _ rfl; (with_reducible repeat (first | refine blk_drewN ?_ _ | refine blk_drew ?_ | refine blk_alloc ?_ _)); refine blk_put (cs := #[.int .u64 t399, .int .i64 t400, .int .i64 t401, .int .u64 0, .int .u64 0, .int .i64 0, .int .i64 0]) ?_ 3 _ rfl; (with_reducible repeat (first | refine blk_drewN ?_ _ | refine blk_drew ?_ | refine blk_alloc ?_ _)); refine blk_put (cs := #[.int .u64 t399, .int .i64 t400, .int .i64 0, .int .u64 0, .int .u64 0, .int .i64 0, .int .i64 0]) ?_ 2 _ rfl; (with_reducible repeat (first | refine blk_drewN ?_ _ | refine blk_drew ?_ | refine blk_alloc ?_ _)); refine blk_put (cs := #[.int .u64 t399, .int .i64 0, .int .i64 0, .int .u64 0, .int .u64 0, .int .i64 0, .int .i64 0]) ?_ 1 _ rfl; (with_reducible repeat (first | refine blk_drewN ?_ _ | refine blk_drew ?_ | refine blk_alloc ?_ _)); refine blk_put (cs := #[.int .u64 0, .int .i64 0, .int .i64 0, .int .u64 0, .int .u64 0, .int .i64 0, .int .i64 0]) ?_ 0 _ rfl; (with_reducible repeat (first | refine blk_drewN ?_ _ | refine blk_drew ?_ | refine blk_alloc ?_ _)); exact BK407.out⟩, ⟨by repeat (first | (with_reducible first | exact HB.out | apply below_alloc | apply pw_below_drewN | apply below_drew1 | refine below_set ?_ GE389.out | refine below_set ?_ GE398.out | refine below_set ?_ GE407.out) | exact HB.out)⟩⟩
  case rest =>
    clear HC5
    try clear c1
    try clear p2
    try clear c9
    try clear c13
    try clear c14
    try clear c15
    try clear c16
    try clear c16b0
    try clear c16b1
    try clear hcz10_0
    try clear hcz10_1
    try clear hcz10_2
    try clear hcz10_3
    try clear hcz10_4
    try clear hcz10_5
    try clear hcz10_6
    try clear hcz15_0
    try clear hcz15_1
    try clear hcz15_2
    try clear hcz15_3
    try clear hcz15_4
    try clear hcz15_5
    try clear hcz15_6
    try clear hfz10_0
    try clear hfz10_1
    try clear hfz10_2
    try clear hfz10_3
    try clear hfz10_4
    try clear hfz10_5
    try clear hfz10_6
    try clear hfz15_0
    try clear hfz15_1
    try clear hfz15_2
    try clear hfz15_3
    try clear hfz15_4
    try clear hfz15_5
    try clear hfz15_6
    obtain ⟨kq, x20_4, rfl, HA, HJ4, BK389, BK398, BK407, HB⟩ := hcut
    cases kq with
    | zero => exact absurd HA.out (by simp [root_Pick.j0])
    | succ kj4 =>
      have H := HA.out
      clear HA
      simp only [root_Pick.j0] at H
      by_cases c17 : x20_4 = true
      · subst c17
        have H1 : (some (0, 0, 0, 0, 0, 0, 0, 7)) = some (r1, r2, r3, r4, r5, r6, r7, r8) := by rw [if_pos rfl] at H; exact H
        clear H
        have H := H1
        clear H1
        simp only [Option.some.injEq, Prod.mk.injEq] at H
        obtain ⟨rfl, rfl, rfl, rfl, rfl, rfl, rfl, rfl⟩ := H
        have hnb18 := NB389_398.out
        have hnc18 := NB398_389.out
        have hnb19 := NB389_407.out
        have hnc19 := NB407_389.out
        have hcz20_0 : wc.cell? ⟨gb389, 0, none⟩ = some (.int .u64 0) := (blk_cell BK389.out 0).trans rfl
        have hcz20_1 : wc.cell? ⟨gb389, 1, none⟩ = some (.int .i64 0) := (blk_cell BK389.out 1).trans rfl
        have hcz20_2 : wc.cell? ⟨gb389, 2, none⟩ = some (.int .i64 0) := (blk_cell BK389.out 2).trans rfl
        have hcz20_3 : wc.cell? ⟨gb389, 3, none⟩ = some (.int .u64 0) := (blk_cell BK389.out 3).trans rfl
        have hcz20_4 : wc.cell? ⟨gb389, 4, none⟩ = some (.int .u64 0) := (blk_cell BK389.out 4).trans rfl
        have hcz20_5 : wc.cell? ⟨gb389, 5, none⟩ = some (.int .i64 0) := (blk_cell BK389.out 5).trans rfl
        have hcz20_6 : wc.cell? ⟨gb389, 6, none⟩ = some (.int .i64 0) := (blk_cell BK389.out 6).trans rfl
        have hfz20_0 := blk_frozen BK389.out 0
        have hfz20_1 := blk_frozen BK389.out 1
        have hfz20_2 := blk_frozen BK389.out 2
        have hfz20_3 := blk_frozen BK389.out 3
        have hfz20_4 := blk_frozen BK389.out 4
        have hfz20_5 := blk_frozen BK389.out 5
        have hfz20_6 := blk_frozen BK389.out 6
        go_wp2
        refine bodyPost_ret (results_ct rfl _ _ gb389 34 #[.int .u64 0, .int .i64 0, .int .i64 0, .int .u64 0, .int .u64 0, .int .i64 0, .int .i64 0] (0, 0) _ rfl (by (with_reducible repeat (first | refine blk_drewN ?_ _ | refine blk_drew ?_ | refine blk_alloc ?_ _)); refine blk_put (cs := #[.int .u64 0, .int .i64 0, .int .i64 0, .int .u64 0, .int .u64 0, .int .i64 0, .int .i64 0]) ?_ 6 _ rfl; (with_reducible repeat (first | refine blk_drewN ?_ _ | refine blk_drew ?_ | refine blk_alloc ?_ _)); refine blk_put (cs := #[.int .u64 0, .int .i64 0, .int .i64 0, .int .u64 0, .int .u64 0, .int .i64 0, .int .i64 0]) ?_ 5 _ rfl; (with_reducible repeat (first | refine blk_drewN ?_ _ | refine blk_drew ?_ | refine blk_alloc ?_ _)); refine blk_put (cs := #[.int .u64 0, .int .i64 0, .int .i64 0, .int .u64 0, .int .u64 0, .int .i64 0, .int .i64 0]) ?_ 4 _ rfl; (with_reducible repeat (first | refine blk_drewN ?_ _ | refine blk_drew ?_ | refine blk_alloc ?_ _)); refine blk_put (cs := #[.int .u64 0, .int .i64 0, .int .i64 0, .int .u64 0, .int .u64 0, .int .i64 0, .int .i64 0]) ?_ 3 _ rfl; (with_reducible repeat (first | refine blk_drewN ?_ _ | refine blk_drew ?_ | refine blk_alloc ?_ _)); refine blk_put (cs := #[.int .u64 0, .int .i64 0, .int .i64 0, .int .u64 0, .int .u64 0, .int .i64 0, .int .i64 0]) ?_ 2 _ rfl; (with_reducible repeat (first | refine blk_drewN ?_ _ | refine blk_drew ?_ | refine blk_alloc ?_ _)); refine blk_put (cs := #[.int .u64 0, .int .i64 0, .int .i64 0, .int .u64 0, .int .u64 0, .int .i64 0, .int .i64 0]) ?_ 1 _ rfl; (with_reducible repeat (first | refine blk_drewN ?_ _ | refine blk_drew ?_ | refine blk_alloc ?_ _)); refine blk_put (cs := #[.int .u64 0, .int .i64 0, .int .i64 0, .int .u64 0, .int .u64 0, .int .i64 0, .int .i64 0]) ?_ 0 _ rfl; (with_reducible repeat (first | refine blk_drewN ?_ _ | refine blk_drew ?_ | refine blk_alloc ?_ _)); exact BK389.out) Try.underlying34 rfl (by kernel_rfl)) rfl ?_
        exact ⟨by first | rfl | (simp [errW_none, errW_some] <;> rfl) | (simp [*, errW_none, errW_some] <;> rfl), by repeat (first | (with_reducible first | exact HB.out | apply below_alloc | apply pw_below_drewN | apply below_drew1 | refine below_set ?_ GE389.out | refine below_set ?_ GE398.out | refine below_set ?_ GE407.out) | exact HB.out)⟩
      · replace c17 := Bool.eq_false_iff.mpr c17
        subst c17
        have H1 : (if t397 = 0 then (if t406 = 0 then (if t399 > t390 then (some (t399, t400, t401, t402, t403, t404, t405, 0)) else (some (t390, t391, t392, t393, t394, t395, t396, 0))) else (some (t390, t391, t392, t393, t394, t395, t396, 0))) else (some (t399, t400, t401, t402, t403, t404, t405, 0))) = some (r1, r2, r3, r4, r5, r6, r7, r8) := by rw [if_neg (show ¬ (false = true) by decide)] at H; exact H
        clear H
        have H := H1
        clear H1
        by_cases c21 : t397 = 0
        · rw [if_pos c21] at H
          have c21b0 : (t397 == 0) = true := beq_iff_eq.mpr c21
          have c21b1 : (t397 != 0) = false := bne_eq_false_iff_eq.mpr c21
          clear c21
          by_cases c22 : t406 = 0
          · rw [if_pos c22] at H
            have c22b0 : (t406 == 0) = true := beq_iff_eq.mpr c22
            have c22b1 : (t406 != 0) = false := bne_eq_false_iff_eq.mpr c22
            clear c22
            by_cases c23 : t399 > t390
            · rw [if_pos c23] at H
              have c23b0 : decide (t390 < t399) = true := decide_eq_true c23
              clear c23
              simp only [Option.some.injEq, Prod.mk.injEq] at H
              obtain ⟨rfl, rfl, rfl, rfl, rfl, rfl, rfl, rfl⟩ := H
              have hnb24 := NB407_389.out
              have hnc24 := NB389_407.out
              have hnb25 := NB407_398.out
              have hnc25 := NB398_407.out
              have hcz26_0 : wc.cell? ⟨gb407, 0, none⟩ = some (.int .u64 t399) := (blk_cell BK407.out 0).trans rfl
              have hcz26_1 : wc.cell? ⟨gb407, 1, none⟩ = some (.int .i64 t400) := (blk_cell BK407.out 1).trans rfl
              have hcz26_2 : wc.cell? ⟨gb407, 2, none⟩ = some (.int .i64 t401) := (blk_cell BK407.out 2).trans rfl
              have hcz26_3 : wc.cell? ⟨gb407, 3, none⟩ = some (.int .u64 t402) := (blk_cell BK407.out 3).trans rfl
              have hcz26_4 : wc.cell? ⟨gb407, 4, none⟩ = some (.int .u64 t403) := (blk_cell BK407.out 4).trans rfl
              have hcz26_5 : wc.cell? ⟨gb407, 5, none⟩ = some (.int .i64 t404) := (blk_cell BK407.out 5).trans rfl
              have hcz26_6 : wc.cell? ⟨gb407, 6, none⟩ = some (.int .i64 t405) := (blk_cell BK407.out 6).trans rfl
              have hfz26_0 := blk_frozen BK407.out 0
              have hfz26_1 := blk_frozen BK407.out 1
              have hfz26_2 := blk_frozen BK407.out 2
              have hfz26_3 := blk_frozen BK407.out 3
              have hfz26_4 := blk_frozen BK407.out 4
              have hfz26_5 := blk_frozen BK407.out 5
              have hfz26_6 := blk_frozen BK407.out 6
              have hnb27 := NB398_389.out
              have hnc27 := NB389_398.out
              have hcz28_0 : wc.cell? ⟨gb398, 0, none⟩ = some (.int .u64 t390) := (blk_cell BK398.out 0).trans rfl
              have hcz28_1 : wc.cell? ⟨gb398, 1, none⟩ = some (.int .i64 t391) := (blk_cell BK398.out 1).trans rfl
              have hcz28_2 : wc.cell? ⟨gb398, 2, none⟩ = some (.int .i64 t392) := (blk_cell BK398.out 2).trans rfl
              have hcz28_3 : wc.cell? ⟨gb398, 3, none⟩ = some (.int .u64 t393) := (blk_cell BK398.out 3).trans rfl
              have hcz28_4 : wc.cell? ⟨gb398, 4, none⟩ = some (.int .u64 t394) := (blk_cell BK398.out 4).trans rfl
              have hcz28_5 : wc.cell? ⟨gb398, 5, none⟩ = some (.int .i64 t395) := (blk_cell BK398.out 5).trans rfl
              have hcz28_6 : wc.cell? ⟨gb398, 6, none⟩ = some (.int .i64 t396) := (blk_cell BK398.out 6).trans rfl
              have hfz28_0 := blk_frozen BK398.out 0
              have hfz28_1 := blk_frozen BK398.out 1
              have hfz28_2 := blk_frozen BK398.out 2
              have hfz28_3 := blk_frozen BK398.out 3
              have hfz28_4 := blk_frozen BK398.out 4
              have hfz28_5 := blk_frozen BK398.out 5
              have hfz28_6 := blk_frozen BK398.out 6
              have hcz29_0 : wc.cell? ⟨gb389, 0, none⟩ = some (.int .u64 0) := (blk_cell BK389.out 0).trans rfl
              have hcz29_1 : wc.cell? ⟨gb389, 1, none⟩ = some (.int .i64 0) := (blk_cell BK389.out 1).trans rfl
              have hcz29_2 : wc.cell? ⟨gb389, 2, none⟩ = some (.int .i64 0) := (blk_cell BK389.out 2).trans rfl
              have hcz29_3 : wc.cell? ⟨gb389, 3, none⟩ = some (.int .u64 0) := (blk_cell BK389.out 3).trans rfl
              have hcz29_4 : wc.cell? ⟨gb389, 4, none⟩ = some (.int .u64 0) := (blk_cell BK389.out 4).trans rfl
              have hcz29_5 : wc.cell? ⟨gb389, 5, none⟩ = some (.int .i64 0) := (blk_cell BK389.out 5).trans rfl
              have hcz29_6 : wc.cell? ⟨gb389, 6, none⟩ = some (.int .i64 0) := (blk_cell BK389.out 6).trans rfl
              have hfz29_0 := blk_frozen BK389.out 0
              have hfz29_1 := blk_frozen BK389.out 1
              have hfz29_2 := blk_frozen BK389.out 2
              have hfz29_3 := blk_frozen BK389.out 3
              have hfz29_4 := blk_frozen BK389.out 4
              have hfz29_5 := blk_frozen BK389.out 5
              have hfz29_6 := blk_frozen BK389.out 6
              go_wp2
              refine bodyPost_ret (results_ct rfl _ _ gb389 34 #[.int .u64 t399, .int .i64 t400, .int .i64 t401, .int .u64 t402, .int .u64 t403, .int .i64 t404, .int .i64 t405] (0, 0) _ rfl (by (with_reducible repeat (first | refine blk_drewN ?_ _ | refine blk_drew ?_ | refine blk_alloc ?_ _)); refine blk_put (cs := #[.int .u64 t399, .int .i64 t400, .int .i64 t401, .int .u64 t402, .int .u64 t403, .int .i64 t404, .int .i64 0]) ?_ 6 _ rfl; (with_reducible repeat (first | refine blk_drewN ?_ _ | refine blk_drew ?_ | refine blk_alloc ?_ _)); refine blk_put (cs := #[.int .u64 t399, .int .i64 t400, .int .i64 t401, .int .u64 t402, .int .u64 t403, .int .i64 0, .int .i64 0]) ?_ 5 _ rfl; (with_reducible repeat (first | refine blk_drewN ?_ _ | refine blk_drew ?_ | refine blk_alloc ?_ _)); refine blk_put (cs := #[.int .u64 t399, .int .i64 t400, .int .i64 t401, .int .u64 t402, .int .u64 0, .int .i64 0, .int .i64 0]) ?_ 4 _ rfl; (with_reducible repeat (first | refine blk_drewN ?_ _ | refine blk_drew ?_ | refine blk_alloc ?_ _)); refine blk_put (cs := #[.int .u64 t399, .int .i64 t400, .int .i64 t401, .int .u64 0, .int .u64 0, .int .i64 0, .int .i64 0]) ?_ 3 _ rfl; (with_reducible repeat (first | refine blk_drewN ?_ _ | refine blk_drew ?_ | refine blk_alloc ?_ _)); refine blk_put (cs := #[.int .u64 t399, .int .i64 t400, .int .i64 0, .int .u64 0, .int .u64 0, .int .i64 0, .int .i64 0]) ?_ 2 _ rfl; (with_reducible repeat (first | refine blk_drewN ?_ _ | refine blk_drew ?_ | refine blk_alloc ?_ _)); refine blk_put (cs := #[.int .u64 t399, .int .i64 0, .int .i64 0, .int .u64 0, .int .u64 0, .int .i64 0, .int .i64 0]) ?_ 1 _ rfl; (with_reducible repeat (first | refine blk_drewN ?_ _ | refine blk_drew ?_ | refine blk_alloc ?_ _)); refine blk_put (cs := #[.int .u64 0, .int .i64 0, .int .i64 0, .int .u64 0, .int .u64 0, .int .i64 0, .int .i64 0]) ?_ 0 _ rfl; (with_reducible repeat (first | refine blk_drewN ?_ _ | refine blk_drew ?_ | refine blk_alloc ?_ _)); exact BK389.out) Try.underlying34 rfl (by kernel_rfl)) rfl ?_
              exact ⟨by first | rfl | (simp [errW_none, errW_some] <;> rfl) | (simp [*, errW_none, errW_some] <;> rfl), by repeat (first | (with_reducible first | exact HB.out | apply below_alloc | apply pw_below_drewN | apply below_drew1 | refine below_set ?_ GE389.out | refine below_set ?_ GE398.out | refine below_set ?_ GE407.out) | exact HB.out)⟩
            · rw [if_neg c23] at H
              have c23b0 : decide (t390 < t399) = false := decide_eq_false c23
              clear c23
              simp only [Option.some.injEq, Prod.mk.injEq] at H
              obtain ⟨rfl, rfl, rfl, rfl, rfl, rfl, rfl, rfl⟩ := H
              have hnb30 := NB407_389.out
              have hnc30 := NB389_407.out
              have hnb31 := NB407_398.out
              have hnc31 := NB398_407.out
              have hcz32_0 : wc.cell? ⟨gb407, 0, none⟩ = some (.int .u64 t399) := (blk_cell BK407.out 0).trans rfl
              have hcz32_1 : wc.cell? ⟨gb407, 1, none⟩ = some (.int .i64 t400) := (blk_cell BK407.out 1).trans rfl
              have hcz32_2 : wc.cell? ⟨gb407, 2, none⟩ = some (.int .i64 t401) := (blk_cell BK407.out 2).trans rfl
              have hcz32_3 : wc.cell? ⟨gb407, 3, none⟩ = some (.int .u64 t402) := (blk_cell BK407.out 3).trans rfl
              have hcz32_4 : wc.cell? ⟨gb407, 4, none⟩ = some (.int .u64 t403) := (blk_cell BK407.out 4).trans rfl
              have hcz32_5 : wc.cell? ⟨gb407, 5, none⟩ = some (.int .i64 t404) := (blk_cell BK407.out 5).trans rfl
              have hcz32_6 : wc.cell? ⟨gb407, 6, none⟩ = some (.int .i64 t405) := (blk_cell BK407.out 6).trans rfl
              have hfz32_0 := blk_frozen BK407.out 0
              have hfz32_1 := blk_frozen BK407.out 1
              have hfz32_2 := blk_frozen BK407.out 2
              have hfz32_3 := blk_frozen BK407.out 3
              have hfz32_4 := blk_frozen BK407.out 4
              have hfz32_5 := blk_frozen BK407.out 5
              have hfz32_6 := blk_frozen BK407.out 6
              have hnb33 := NB398_389.out
              have hnc33 := NB389_398.out
              have hcz34_0 : wc.cell? ⟨gb398, 0, none⟩ = some (.int .u64 t390) := (blk_cell BK398.out 0).trans rfl
              have hcz34_1 : wc.cell? ⟨gb398, 1, none⟩ = some (.int .i64 t391) := (blk_cell BK398.out 1).trans rfl
              have hcz34_2 : wc.cell? ⟨gb398, 2, none⟩ = some (.int .i64 t392) := (blk_cell BK398.out 2).trans rfl
              have hcz34_3 : wc.cell? ⟨gb398, 3, none⟩ = some (.int .u64 t393) := (blk_cell BK398.out 3).trans rfl
              have hcz34_4 : wc.cell? ⟨gb398, 4, none⟩ = some (.int .u64 t394) := (blk_cell BK398.out 4).trans rfl
              have hcz34_5 : wc.cell? ⟨gb398, 5, none⟩ = some (.int .i64 t395) := (blk_cell BK398.out 5).trans rfl
              have hcz34_6 : wc.cell? ⟨gb398, 6, none⟩ = some (.int .i64 t396) := (blk_cell BK398.out 6).trans rfl
              have hfz34_0 := blk_frozen BK398.out 0
              have hfz34_1 := blk_frozen BK398.out 1
              have hfz34_2 := blk_frozen BK398.out 2
              have hfz34_3 := blk_frozen BK398.out 3
              have hfz34_4 := blk_frozen BK398.out 4
              have hfz34_5 := blk_frozen BK398.out 5
              have hfz34_6 := blk_frozen BK398.out 6
              have hcz35_0 : wc.cell? ⟨gb389, 0, none⟩ = some (.int .u64 0) := (blk_cell BK389.out 0).trans rfl
              have hcz35_1 : wc.cell? ⟨gb389, 1, none⟩ = some (.int .i64 0) := (blk_cell BK389.out 1).trans rfl
              have hcz35_2 : wc.cell? ⟨gb389, 2, none⟩ = some (.int .i64 0) := (blk_cell BK389.out 2).trans rfl
              have hcz35_3 : wc.cell? ⟨gb389, 3, none⟩ = some (.int .u64 0) := (blk_cell BK389.out 3).trans rfl
              have hcz35_4 : wc.cell? ⟨gb389, 4, none⟩ = some (.int .u64 0) := (blk_cell BK389.out 4).trans rfl
              have hcz35_5 : wc.cell? ⟨gb389, 5, none⟩ = some (.int .i64 0) := (blk_cell BK389.out 5).trans rfl
              have hcz35_6 : wc.cell? ⟨gb389, 6, none⟩ = some (.int .i64 0) := (blk_cell BK389.out 6).trans rfl
              have hfz35_0 := blk_frozen BK389.out 0
              have hfz35_1 := blk_frozen BK389.out 1
              have hfz35_2 := blk_frozen BK389.out 2
              have hfz35_3 := blk_frozen BK389.out 3
              have hfz35_4 := blk_frozen BK389.out 4
              have hfz35_5 := blk_frozen BK389.out 5
              have hfz35_6 := blk_frozen BK389.out 6
              go_wp2
              refine bodyPost_ret (results_ct rfl _ _ gb389 34 #[.int .u64 t390, .int .i64 t391, .int .i64 t392, .int .u64 t393, .int .u64 t394, .int .i64 t395, .int .i64 t396] (0, 0) _ rfl (by (with_reducible repeat (first | refine blk_drewN ?_ _ | refine blk_drew ?_ | refine blk_alloc ?_ _)); refine blk_put (cs := #[.int .u64 t390, .int .i64 t391, .int .i64 t392, .int .u64 t393, .int .u64 t394, .int .i64 t395, .int .i64 0]) ?_ 6 _ rfl; (with_reducible repeat (first | refine blk_drewN ?_ _ | refine blk_drew ?_ | refine blk_alloc ?_ _)); refine blk_put (cs := #[.int .u64 t390, .int .i64 t391, .int .i64 t392, .int .u64 t393, .int .u64 t394, .int .i64 0, .int .i64 0]) ?_ 5 _ rfl; (with_reducible repeat (first | refine blk_drewN ?_ _ | refine blk_drew ?_ | refine blk_alloc ?_ _)); refine blk_put (cs := #[.int .u64 t390, .int .i64 t391, .int .i64 t392, .int .u64 t393, .int .u64 0, .int .i64 0, .int .i64 0]) ?_ 4 _ rfl; (with_reducible repeat (first | refine blk_drewN ?_ _ | refine blk_drew ?_ | refine blk_alloc ?_ _)); refine blk_put (cs := #[.int .u64 t390, .int .i64 t391, .int .i64 t392, .int .u64 0, .int .u64 0, .int .i64 0, .int .i64 0]) ?_ 3 _ rfl; (with_reducible repeat (first | refine blk_drewN ?_ _ | refine blk_drew ?_ | refine blk_alloc ?_ _)); refine blk_put (cs := #[.int .u64 t390, .int .i64 t391, .int .i64 0, .int .u64 0, .int .u64 0, .int .i64 0, .int .i64 0]) ?_ 2 _ rfl; (with_reducible repeat (first | refine blk_drewN ?_ _ | refine blk_drew ?_ | refine blk_alloc ?_ _)); refine blk_put (cs := #[.int .u64 t390, .int .i64 0, .int .i64 0, .int .u64 0, .int .u64 0, .int .i64 0, .int .i64 0]) ?_ 1 _ rfl; (with_reducible repeat (first | refine blk_drewN ?_ _ | refine blk_drew ?_ | refine blk_alloc ?_ _)); refine blk_put (cs := #[.int .u64 0, .int .i64 0, .int .i64 0, .int .u64 0, .int .u64 0, .int .i64 0, .int .i64 0]) ?_ 0 _ rfl; (with_reducible repeat (first | refine blk_drewN ?_ _ | refine blk_drew ?_ | refine blk_alloc ?_ _)); exact BK389.out) Try.underlying34 rfl (by kernel_rfl)) rfl ?_
              exact ⟨by first | rfl | (simp [errW_none, errW_some] <;> rfl) | (simp [*, errW_none, errW_some] <;> rfl), by repeat (first | (with_reducible first | exact HB.out | apply below_alloc | apply pw_below_drewN | apply below_drew1 | refine below_set ?_ GE389.out | refine below_set ?_ GE398.out | refine below_set ?_ GE407.out) | exact HB.out)⟩
          · rw [if_neg c22] at H
            have c22b0 : (t406 == 0) = false := beq_eq_false_iff_ne.mpr c22
            have c22b1 : (t406 != 0) = true := bne_iff_ne.mpr c22
            simp only [Option.some.injEq, Prod.mk.injEq] at H
            obtain ⟨rfl, rfl, rfl, rfl, rfl, rfl, rfl, rfl⟩ := H
            have hnb36 := NB398_389.out
            have hnc36 := NB389_398.out
            have hnb37 := NB398_407.out
            have hnc37 := NB407_398.out
            have hcz38_0 : wc.cell? ⟨gb398, 0, none⟩ = some (.int .u64 t390) := (blk_cell BK398.out 0).trans rfl
            have hcz38_1 : wc.cell? ⟨gb398, 1, none⟩ = some (.int .i64 t391) := (blk_cell BK398.out 1).trans rfl
            have hcz38_2 : wc.cell? ⟨gb398, 2, none⟩ = some (.int .i64 t392) := (blk_cell BK398.out 2).trans rfl
            have hcz38_3 : wc.cell? ⟨gb398, 3, none⟩ = some (.int .u64 t393) := (blk_cell BK398.out 3).trans rfl
            have hcz38_4 : wc.cell? ⟨gb398, 4, none⟩ = some (.int .u64 t394) := (blk_cell BK398.out 4).trans rfl
            have hcz38_5 : wc.cell? ⟨gb398, 5, none⟩ = some (.int .i64 t395) := (blk_cell BK398.out 5).trans rfl
            have hcz38_6 : wc.cell? ⟨gb398, 6, none⟩ = some (.int .i64 t396) := (blk_cell BK398.out 6).trans rfl
            have hfz38_0 := blk_frozen BK398.out 0
            have hfz38_1 := blk_frozen BK398.out 1
            have hfz38_2 := blk_frozen BK398.out 2
            have hfz38_3 := blk_frozen BK398.out 3
            have hfz38_4 := blk_frozen BK398.out 4
            have hfz38_5 := blk_frozen BK398.out 5
            have hfz38_6 := blk_frozen BK398.out 6
            have hnb39 := NB389_407.out
            have hnc39 := NB407_389.out
            have hcz40_0 : wc.cell? ⟨gb389, 0, none⟩ = some (.int .u64 0) := (blk_cell BK389.out 0).trans rfl
            have hcz40_1 : wc.cell? ⟨gb389, 1, none⟩ = some (.int .i64 0) := (blk_cell BK389.out 1).trans rfl
            have hcz40_2 : wc.cell? ⟨gb389, 2, none⟩ = some (.int .i64 0) := (blk_cell BK389.out 2).trans rfl
            have hcz40_3 : wc.cell? ⟨gb389, 3, none⟩ = some (.int .u64 0) := (blk_cell BK389.out 3).trans rfl
            have hcz40_4 : wc.cell? ⟨gb389, 4, none⟩ = some (.int .u64 0) := (blk_cell BK389.out 4).trans rfl
            have hcz40_5 : wc.cell? ⟨gb389, 5, none⟩ = some (.int .i64 0) := (blk_cell BK389.out 5).trans rfl
            have hcz40_6 : wc.cell? ⟨gb389, 6, none⟩ = some (.int .i64 0) := (blk_cell BK389.out 6).trans rfl
            have hfz40_0 := blk_frozen BK389.out 0
            have hfz40_1 := blk_frozen BK389.out 1
            have hfz40_2 := blk_frozen BK389.out 2
            have hfz40_3 := blk_frozen BK389.out 3
            have hfz40_4 := blk_frozen BK389.out 4
            have hfz40_5 := blk_frozen BK389.out 5
            have hfz40_6 := blk_frozen BK389.out 6
            go_wp2
            refine bodyPost_ret (results_ct rfl _ _ gb389 34 #[.int .u64 t390, .int .i64 t391, .int .i64 t392, .int .u64 t393, .int .u64 t394, .int .i64 t395, .int .i64 t396] (0, 0) _ rfl (by (with_reducible repeat (first | refine blk_drewN ?_ _ | refine blk_drew ?_ | refine blk_alloc ?_ _)); refine blk_put (cs := #[.int .u64 t390, .int .i64 t391, .int .i64 t392, .int .u64 t393, .int .u64 t394, .int .i64 t395, .int .i64 0]) ?_ 6 _ rfl; (with_reducible repeat (first | refine blk_drewN ?_ _ | refine blk_drew ?_ | refine blk_alloc ?_ _)); refine blk_put (cs := #[.int .u64 t390, .int .i64 t391, .int .i64 t392, .int .u64 t393, .int .u64 t394, .int .i64 0, .int .i64 0]) ?_ 5 _ rfl; (with_reducible repeat (first | refine blk_drewN ?_ _ | refine blk_drew ?_ | refine blk_alloc ?_ _)); refine blk_put (cs := #[.int .u64 t390, .int .i64 t391, .int .i64 t392, .int .u64 t393, .int .u64 0, .int .i64 0, .int .i64 0]) ?_ 4 _ rfl; (with_reducible repeat (first | refine blk_drewN ?_ _ | refine blk_drew ?_ | refine blk_alloc ?_ _)); refine blk_put (cs := #[.int .u64 t390, .int .i64 t391, .int .i64 t392, .int .u64 0, .int .u64 0, .int .i64 0, .int .i64 0]) ?_ 3 _ rfl; (with_reducible repeat (first | refine blk_drewN ?_ _ | refine blk_drew ?_ | refine blk_alloc ?_ _)); refine blk_put (cs := #[.int .u64 t390, .int .i64 t391, .int .i64 0, .int .u64 0, .int .u64 0, .int .i64 0, .int .i64 0]) ?_ 2 _ rfl; (with_reducible repeat (first | refine blk_drewN ?_ _ | refine blk_drew ?_ | refine blk_alloc ?_ _)); refine blk_put (cs := #[.int .u64 t390, .int .i64 0, .int .i64 0, .int .u64 0, .int .u64 0, .int .i64 0, .int .i64 0]) ?_ 1 _ rfl; (with_reducible repeat (first | refine blk_drewN ?_ _ | refine blk_drew ?_ | refine blk_alloc ?_ _)); refine blk_put (cs := #[.int .u64 0, .int .i64 0, .int .i64 0, .int .u64 0, .int .u64 0, .int .i64 0, .int .i64 0]) ?_ 0 _ rfl; (with_reducible repeat (first | refine blk_drewN ?_ _ | refine blk_drew ?_ | refine blk_alloc ?_ _)); exact BK389.out) Try.underlying34 rfl (by kernel_rfl)) rfl ?_
            exact ⟨by first | rfl | (simp [errW_none, errW_some] <;> rfl) | (simp [*, errW_none, errW_some] <;> rfl), by repeat (first | (with_reducible first | exact HB.out | apply below_alloc | apply pw_below_drewN | apply below_drew1 | refine below_set ?_ GE389.out | refine below_set ?_ GE398.out | refine below_set ?_ GE407.out) | exact HB.out)⟩
        · rw [if_neg c21] at H
          have c21b0 : (t397 == 0) = false := beq_eq_false_iff_ne.mpr c21
          have c21b1 : (t397 != 0) = true := bne_iff_ne.mpr c21
          simp only [Option.some.injEq, Prod.mk.injEq] at H
          obtain ⟨rfl, rfl, rfl, rfl, rfl, rfl, rfl, rfl⟩ := H
          have hnb41 := NB407_389.out
          have hnc41 := NB389_407.out
          have hnb42 := NB407_398.out
          have hnc42 := NB398_407.out
          have hcz43_0 : wc.cell? ⟨gb407, 0, none⟩ = some (.int .u64 t399) := (blk_cell BK407.out 0).trans rfl
          have hcz43_1 : wc.cell? ⟨gb407, 1, none⟩ = some (.int .i64 t400) := (blk_cell BK407.out 1).trans rfl
          have hcz43_2 : wc.cell? ⟨gb407, 2, none⟩ = some (.int .i64 t401) := (blk_cell BK407.out 2).trans rfl
          have hcz43_3 : wc.cell? ⟨gb407, 3, none⟩ = some (.int .u64 t402) := (blk_cell BK407.out 3).trans rfl
          have hcz43_4 : wc.cell? ⟨gb407, 4, none⟩ = some (.int .u64 t403) := (blk_cell BK407.out 4).trans rfl
          have hcz43_5 : wc.cell? ⟨gb407, 5, none⟩ = some (.int .i64 t404) := (blk_cell BK407.out 5).trans rfl
          have hcz43_6 : wc.cell? ⟨gb407, 6, none⟩ = some (.int .i64 t405) := (blk_cell BK407.out 6).trans rfl
          have hfz43_0 := blk_frozen BK407.out 0
          have hfz43_1 := blk_frozen BK407.out 1
          have hfz43_2 := blk_frozen BK407.out 2
          have hfz43_3 := blk_frozen BK407.out 3
          have hfz43_4 := blk_frozen BK407.out 4
          have hfz43_5 := blk_frozen BK407.out 5
          have hfz43_6 := blk_frozen BK407.out 6
          have hnb44 := NB389_398.out
          have hnc44 := NB398_389.out
          have hcz45_0 : wc.cell? ⟨gb389, 0, none⟩ = some (.int .u64 0) := (blk_cell BK389.out 0).trans rfl
          have hcz45_1 : wc.cell? ⟨gb389, 1, none⟩ = some (.int .i64 0) := (blk_cell BK389.out 1).trans rfl
          have hcz45_2 : wc.cell? ⟨gb389, 2, none⟩ = some (.int .i64 0) := (blk_cell BK389.out 2).trans rfl
          have hcz45_3 : wc.cell? ⟨gb389, 3, none⟩ = some (.int .u64 0) := (blk_cell BK389.out 3).trans rfl
          have hcz45_4 : wc.cell? ⟨gb389, 4, none⟩ = some (.int .u64 0) := (blk_cell BK389.out 4).trans rfl
          have hcz45_5 : wc.cell? ⟨gb389, 5, none⟩ = some (.int .i64 0) := (blk_cell BK389.out 5).trans rfl
          have hcz45_6 : wc.cell? ⟨gb389, 6, none⟩ = some (.int .i64 0) := (blk_cell BK389.out 6).trans rfl
          have hfz45_0 := blk_frozen BK389.out 0
          have hfz45_1 := blk_frozen BK389.out 1
          have hfz45_2 := blk_frozen BK389.out 2
          have hfz45_3 := blk_frozen BK389.out 3
          have hfz45_4 := blk_frozen BK389.out 4
          have hfz45_5 := blk_frozen BK389.out 5
          have hfz45_6 := blk_frozen BK389.out 6
          go_wp2
          refine bodyPost_ret (results_ct rfl _ _ gb389 34 #[.int .u64 t399, .int .i64 t400, .int .i64 t401, .int .u64 t402, .int .u64 t403, .int .i64 t404, .int .i64 t405] (0, 0) _ rfl (by (with_reducible repeat (first | refine blk_drewN ?_ _ | refine blk_drew ?_ | refine blk_alloc ?_ _)); refine blk_put (cs := #[.int .u64 t399, .int .i64 t400, .int .i64 t401, .int .u64 t402, .int .u64 t403, .int .i64 t404, .int .i64 0]) ?_ 6 _ rfl; (with_reducible repeat (first | refine blk_drewN ?_ _ | refine blk_drew ?_ | refine blk_alloc ?_ _)); refine blk_put (cs := #[.int .u64 t399, .int .i64 t400, .int .i64 t401, .int .u64 t402, .int .u64 t403, .int .i64 0, .int .i64 0]) ?_ 5 _ rfl; (with_reducible repeat (first | refine blk_drewN ?_ _ | refine blk_drew ?_ | refine blk_alloc ?_ _)); refine blk_put (cs := #[.int .u64 t399, .int .i64 t400, .int .i64 t401, .int .u64 t402, .int .u64 0, .int .i64 0, .int .i64 0]) ?_ 4 _ rfl; (with_reducible repeat (first | refine blk_drewN ?_ _ | refine blk_drew ?_ | refine blk_alloc ?_ _)); refine blk_put (cs := #[.int .u64 t399, .int .i64 t400, .int .i64 t401, .int .u64 0, .int .u64 0, .int .i64 0, .int .i64 0]) ?_ 3 _ rfl; (with_reducible repeat (first | refine blk_drewN ?_ _ | refine blk_drew ?_ | refine blk_alloc ?_ _)); refine blk_put (cs := #[.int .u64 t399, .int .i64 t400, .int .i64 0, .int .u64 0, .int .u64 0, .int .i64 0, .int .i64 0]) ?_ 2 _ rfl; (with_reducible repeat (first | refine blk_drewN ?_ _ | refine blk_drew ?_ | refine blk_alloc ?_ _)); refine blk_put (cs := #[.int .u64 t399, .int .i64 0, .int .i64 0, .int .u64 0, .int .u64 0, .int .i64 0, .int .i64 0]) ?_ 1 _ rfl; (with_reducible repeat (first | refine blk_drewN ?_ _ | refine blk_drew ?_ | refine blk_alloc ?_ _)); refine blk_put (cs := #[.int .u64 0, .int .i64 0, .int .i64 0, .int .u64 0, .int .u64 0, .int .i64 0, .int .i64 0]) ?_ 0 _ rfl; (with_reducible repeat (first | refine blk_drewN ?_ _ | refine blk_drew ?_ | refine blk_alloc ?_ _)); exact BK389.out) Try.underlying34 rfl (by kernel_rfl)) rfl ?_
          exact ⟨by first | rfl | (simp [errW_none, errW_some] <;> rfl) | (simp [*, errW_none, errW_some] <;> rfl), by repeat (first | (with_reducible first | exact HB.out | apply below_alloc | apply pw_below_drewN | apply below_drew1 | refine below_set ?_ GE389.out | refine below_set ?_ GE398.out | refine below_set ?_ GE407.out) | exact HB.out)⟩

end Go.Proofs.Ytkecgmoaojklbaa.PAll
