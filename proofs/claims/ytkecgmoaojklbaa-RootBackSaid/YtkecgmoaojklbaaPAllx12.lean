-- PRINTED by print.py (a twelfth state) out of the translation. Not trusted: Lean checks it.
import Derived.Test.YtkecgmoaojklbaaPAllx0
import Derived.Test.YtkecgmoaojklbaaPAllx17
namespace Go.Proofs.Ytkecgmoaojklbaa.PAll
open Go.RowKit Go.Proofs.YtkecgmoaojklbaaVW.PrintWords Go.Proofs.YtkecgmoaojklbaaVW.PrintLast Go.Proofs.YtkecgmoaojklbaaVW.PrintMore
attribute [local go_sem] max2_int min2_int max_two min_two max_three min_three max_four min_four   -- for this text's walks alone
set_option linter.unusedVariables false
set_option linter.unusedSimpArgs false

/-! ### stookref16_Pick: function 20 -/
def stookref16_Pick.j0 : Nat → Int → Int → Bool → Int → Int → Int → Int → Int → Int → Int → Int → Int → Int → Int → Int → Int → Int → Option (Int × Int × Int × Int × Int × Int × Int × Int)
  | 0, _, _, _, _, _, _, _, _, _, _, _, _, _, _, _, _, _ => none
  | k + 1, x7, x9, x25, x418000, x418001, x418002, x418003, x418004, x418005, x418006, x427000, x427001, x427002, x427003, x427004, x427005, x427006 => if x25 = true then (some (0, 0, 0, 0, 0, 0, 0, 7)) else (if x7 = 0 then (if x9 = 0 then (if x418000 > x427000 then (some (x418000, x418001, x418002, x418003, x418004, x418005, x418006, 0)) else (some (x427000, x427001, x427002, x427003, x427004, x427005, x427006, 0))) else (some (x418000, x418001, x418002, x418003, x418004, x418005, x418006, 0))) else (some (x427000, x427001, x427002, x427003, x427004, x427005, x427006, 0)))
def stookref16_Pick.f (k : Nat) (l0 : List Int) (l1 : List Int) : Option (Int × Int × Int × Int × Int × Int × Int × Int) := (stookref16_Get.f k 0 l0).bind fun bt409 => ((stookref16_Get.f k 1 l1).bind fun bt418 => (if bt409.2.2.2.2.2.2.2 = 0 then (stookref16_Pick.j0 k bt409.2.2.2.2.2.2.2 bt418.2.2.2.2.2.2.2 false bt409.1 bt409.2.1 bt409.2.2.1 bt409.2.2.2.1 bt409.2.2.2.2.1 bt409.2.2.2.2.2.1 bt409.2.2.2.2.2.2.1 bt418.1 bt418.2.1 bt418.2.2.1 bt418.2.2.2.1 bt418.2.2.2.2.1 bt418.2.2.2.2.2.1 bt418.2.2.2.2.2.2.1) else (stookref16_Pick.j0 k bt409.2.2.2.2.2.2.2 bt418.2.2.2.2.2.2.2 (bt418.2.2.2.2.2.2.2 != 0) bt409.1 bt409.2.1 bt409.2.2.1 bt409.2.2.2.1 bt409.2.2.2.2.1 bt409.2.2.2.2.2.1 bt409.2.2.2.2.2.2.1 bt418.1 bt418.2.1 bt418.2.2.1 bt418.2.2.2.1 bt418.2.2.2.2.1 bt418.2.2.2.2.2.1 bt418.2.2.2.2.2.2.1)))
theorem stookref16_Pick.mono_l : ∀ k, (∀ y0 y1 y2 y3 y4 y5 y6 y7 y8 y9 y10 y11 y12 y13 y14 y15 y16, LeO (stookref16_Pick.j0 k y0 y1 y2 y3 y4 y5 y6 y7 y8 y9 y10 y11 y12 y13 y14 y15 y16) (stookref16_Pick.j0 (k + 1) y0 y1 y2 y3 y4 y5 y6 y7 y8 y9 y10 y11 y12 y13 y14 y15 y16))
  | 0 => fun _ _ _ _ _ _ _ _ _ _ _ _ _ _ _ _ _ r h => by simp [stookref16_Pick.j0] at h
  | k + 1 => by
    have ih0 := stookref16_Pick.mono_l k
    · intro y0 y1 y2 y3 y4 y5 y6 y7 y8 y9 y10 y11 y12 y13 y14 y15 y16
      unfold stookref16_Pick.j0
      repeat' first
      | (with_reducible exact ih0 _ _ _ _ _ _ _ _ _ _ _ _ _ _ _ _ _)
      | (with_reducible exact stookref16_Get.mono _ _ _)
      | (with_reducible exact LeO.refl _)
      | (with_reducible exact LeO.none _)
      | (with_reducible refine LeO.ite ?_ ?_)
      | (with_reducible refine LeO.bind ?_ (fun _ => ?_))
      | exact ih0 _ _ _ _ _ _ _ _ _ _ _ _ _ _ _ _ _
      | exact stookref16_Get.mono _ _ _
      | exact LeO.none _
      | refine LeO.ite ?_ ?_
      | refine LeO.bind ?_ (fun _ => ?_)
theorem stookref16_Pick.mono : ∀ a0 a1 k, LeO (stookref16_Pick.f k a0 a1) (stookref16_Pick.f (k + 1) a0 a1) := by
  intro a0 a1 k
  have ih0 := stookref16_Pick.mono_l k
  unfold stookref16_Pick.f
  repeat' first
      | (with_reducible exact ih0 _ _ _ _ _ _ _ _ _ _ _ _ _ _ _ _ _)
      | (with_reducible exact stookref16_Get.mono _ _ _)
      | (with_reducible exact LeO.refl _)
      | (with_reducible exact LeO.none _)
      | (with_reducible refine LeO.ite ?_ ?_)
      | (with_reducible refine LeO.bind ?_ (fun _ => ?_))
      | exact ih0 _ _ _ _ _ _ _ _ _ _ _ _ _ _ _ _ _
      | exact stookref16_Get.mono _ _ _
      | exact LeO.none _
      | refine LeO.ite ?_ ?_
      | refine LeO.bind ?_ (fun _ => ?_)
set_option maxHeartbeats 8000000 in
set_option maxRecDepth 100000 in
theorem stookref16_Pick.calls (k : Nat) (A0 : Option Addr) (c0 : Nat) (l0 : List Int) (A1 : Option Addr) (c1 : Nat) (l1 : List Int) (r1 : Int) (r2 : Int) (r3 : Int) (r4 : Int) (r5 : Int) (r6 : Int) (r7 : Int) (r8 : Int) (w : World) (hr0 : Kd.C (Kd.int .u8) w A0 l0.length l0) (hc0 : l0.length ≤ c0) (hr1 : Kd.C (Kd.int .u8) w A1 l1.length l1) (hc1 : l1.length ≤ c1) (h : stookref16_Pick.f k l0 l1 = some (r1, r2, r3, r4, r5, r6, r7, r8)) :
    Calls Try.prog 20 #[.slice A0 l0.length c0, .slice A1 l1.length c1] w fun e w' => e = .returned (.tuple #[.agg #[.int .u64 r1, .int .i64 r2, .int .i64 r3, .int .u64 r4, .int .u64 r5, .int .i64 r6, .int .i64 r7], .int .i64 r8]) ∧ Below w.heap.size w w' := by
  have hu34 := Try.underlying34
  have HR0 := Aside0.mk hr0
  have HC0 := Aside0.mk hc0
  clear hr0 hc0
  have HR1 := Aside0.mk hr1
  have HC1 := Aside0.mk hc1
  clear hr1 hc1
  have HB := Aside0.mk (Below.refl w.heap.size w)
  have H : ((stookref16_Get.f k 0 l0).bind fun bt409 => ((stookref16_Get.f k 1 l1).bind fun bt418 => (if bt409.2.2.2.2.2.2.2 = 0 then (stookref16_Pick.j0 k bt409.2.2.2.2.2.2.2 bt418.2.2.2.2.2.2.2 false bt409.1 bt409.2.1 bt409.2.2.1 bt409.2.2.2.1 bt409.2.2.2.2.1 bt409.2.2.2.2.2.1 bt409.2.2.2.2.2.2.1 bt418.1 bt418.2.1 bt418.2.2.1 bt418.2.2.2.1 bt418.2.2.2.2.1 bt418.2.2.2.2.2.1 bt418.2.2.2.2.2.2.1) else (stookref16_Pick.j0 k bt409.2.2.2.2.2.2.2 bt418.2.2.2.2.2.2.2 (bt418.2.2.2.2.2.2.2 != 0) bt409.1 bt409.2.1 bt409.2.2.1 bt409.2.2.2.1 bt409.2.2.2.2.1 bt409.2.2.2.2.2.1 bt409.2.2.2.2.2.2.1 bt418.1 bt418.2.1 bt418.2.2.1 bt418.2.2.2.1 bt418.2.2.2.2.1 bt418.2.2.2.2.2.1 bt418.2.2.2.2.2.2.1)))) = some (r1, r2, r3, r4, r5, r6, r7, r8) := h
  clear h
  replace H := Option.bind_eq_some_iff.mp H
  obtain ⟨⟨t409, t410, t411, t412, t413, t414, t415, t416⟩, A30, H⟩ := H
  replace H : ((stookref16_Get.f k 1 l1).bind fun bt418 => (if t416 = 0 then (stookref16_Pick.j0 k t416 bt418.2.2.2.2.2.2.2 false t409 t410 t411 t412 t413 t414 t415 bt418.1 bt418.2.1 bt418.2.2.1 bt418.2.2.2.1 bt418.2.2.2.2.1 bt418.2.2.2.2.2.1 bt418.2.2.2.2.2.2.1) else (stookref16_Pick.j0 k t416 bt418.2.2.2.2.2.2.2 (bt418.2.2.2.2.2.2.2 != 0) t409 t410 t411 t412 t413 t414 t415 bt418.1 bt418.2.1 bt418.2.2.1 bt418.2.2.2.1 bt418.2.2.2.2.1 bt418.2.2.2.2.2.1 bt418.2.2.2.2.2.2.1))) = some (r1, r2, r3, r4, r5, r6, r7, r8) := H
  have A3 := Aside0.mk A30
  clear A30
  replace H := Option.bind_eq_some_iff.mp H
  obtain ⟨⟨t418, t419, t420, t421, t422, t423, t424, t425⟩, A40, H⟩ := H
  replace H : (if t416 = 0 then (stookref16_Pick.j0 k t416 t425 false t409 t410 t411 t412 t413 t414 t415 t418 t419 t420 t421 t422 t423 t424) else (stookref16_Pick.j0 k t416 t425 (t425 != 0) t409 t410 t411 t412 t413 t414 t415 t418 t419 t420 t421 t422 t423 t424)) = some (r1, r2, r3, r4, r5, r6, r7, r8) := H
  have A4 := Aside0.mk A40
  clear A40
  have HC5 := Aside0.mk H
  clear H
  go_enter Try.func20, Try.ntmps20
  go_upto_region 3 with (first | ((with_reducible refine gate_dst (N := 4) rfl ?_); refine box_event ?hg (N := 4) ?hd (cs := #[.int .u64 0, .int .i64 0, .int .i64 0, .int .u64 0, .int .u64 0, .int .i64 0, .int .i64 0]) (t := 34) ?hr ?_; (case hd => rfl); (case hg => rfl); (case hr => first | (go_simp; done) | (go_simp; rfl)); intro gb408 hg w6 hbox hb; have n0_ := Aside0.mk (below_step (by repeat (first | (with_reducible first | exact HB.out | apply below_alloc | apply pw_below_drewN | apply below_drew1) | exact HB.out)) hb); have n1_ := Aside0.mk (hbox); have n2_ := Aside0.mk ((by rw [hg]; exact (below_size (by repeat (first | (with_reducible first | exact HB.out | apply below_alloc | apply pw_below_drewN | apply below_drew1) | exact HB.out))) : w.heap.size ≤ gb408)); have n3_ := Aside0.mk ((by rw [hg]; exact (below_size (by repeat (first | (with_reducible first | exact HB.out | apply below_alloc | apply pw_below_drewN | apply below_drew1) | exact HB.out))) : w.heap.size ≤ gb408)); clear HB; have HB := n0_; have BK408 := n1_; have GW408 := n2_; have GE408 := n3_; clear n0_ n1_ n2_ n3_; clear hb hbox hg) | ((with_reducible refine gate_callee (f := 16) rfl ?_); refine goesL_ (some 12) rfl rfl Try.func16 (by kernel_rfl) rfl #[.int .i64 0, .slice A0 l0.length c0] rfl (by (try simp only [List.map_toArray, List.map_cons, List.map_nil]); first | done | rfl | (simp only [List.length_drop, List.length_take]; rfl)) ?_; (with_reducible refine (stookref16_Get.calls k 0 _ _ l0 t409 t410 t411 t412 t413 t414 t415 t416 _ ?side1 ?side2 A3.out).mono ?_); (case side1 => repeat (first | exact (Kd.C_below HR0.out HB.out) | (with_reducible refine Kd.C_alloc ?_ _) | (with_reducible refine Kd.C_drewN ?_ _) | (with_reducible refine Kd.C_drew ?_))); (case side2 => exact HC0.out); rintro e w7 ⟨rfl, hb⟩; refine ⟨_, rfl, ?_⟩; have n0_ := Aside0.mk (blk_below (g := gb408) (o := .cells #[.int .u64 0, .int .i64 0, .int .i64 0, .int .u64 0, .int .u64 0, .int .i64 0, .int .i64 0] 34 (0, 0)) (by (with_reducible repeat (first | refine blk_drewN ?_ _ | refine blk_drew ?_ | refine blk_alloc ?_ _)); exact BK408.out) hb); have n1_ := Aside0.mk (below_step (by repeat (first | (with_reducible first | exact HB.out | apply below_alloc | apply pw_below_drewN | apply below_drew1 | refine below_set ?_ GE408.out) | exact HB.out)) hb); clear BK408; clear HB; have BK408 := n0_; have HB := n1_; clear n0_ n1_; (try clear hb); (try clear hb2); (try clear hk); (try clear hi)) | ((with_reducible refine gate_dst (N := 6) rfl ?_); refine box_event ?hg (N := 6) ?hd (cs := #[.int .u64 0, .int .i64 0, .int .i64 0, .int .u64 0, .int .u64 0, .int .i64 0, .int .i64 0]) (t := 34) ?hr ?_; (case hd => rfl); (case hg => rfl); (case hr => first | (go_simp; done) | (go_simp; rfl)); intro gb417 hg w8 hbox hb; have n0_ := Aside0.mk (blk_below (g := gb408) (o := .cells #[.int .u64 0, .int .i64 0, .int .i64 0, .int .u64 0, .int .u64 0, .int .i64 0, .int .i64 0] 34 (0, 0)) (by (with_reducible repeat (first | refine blk_drewN ?_ _ | refine blk_drew ?_ | refine blk_alloc ?_ _)); exact BK408.out) hb); have n1_ := Aside0.mk (below_step (by repeat (first | (with_reducible first | exact HB.out | apply below_alloc | apply pw_below_drewN | apply below_drew1 | refine below_set ?_ GE408.out) | exact HB.out)) hb); have n2_ := Aside0.mk (hbox); have n3_ := Aside0.mk ((by rw [hg]; exact (below_size (by repeat (first | (with_reducible first | exact HB.out | apply below_alloc | apply pw_below_drewN | apply below_drew1 | refine below_set ?_ GE408.out) | exact HB.out))) : w.heap.size ≤ gb417)); have n4_ := Aside0.mk ((by rw [hg]; exact (below_size (by repeat (first | (with_reducible first | exact HB.out | apply below_alloc | apply pw_below_drewN | apply below_drew1 | refine below_set ?_ GE408.out) | exact HB.out))) : w.heap.size ≤ gb417)); have n5_ := Aside0.mk ((by rw [hg]; exact Nat.ne_of_lt (blk_lt (g := gb408) (o := .cells #[.int .u64 0, .int .i64 0, .int .i64 0, .int .u64 0, .int .u64 0, .int .i64 0, .int .i64 0] 34 (0, 0)) (by (with_reducible repeat (first | refine blk_drewN ?_ _ | refine blk_drew ?_ | refine blk_alloc ?_ _)); exact BK408.out)) : gb408 ≠ gb417)); have n6_ := Aside0.mk ((by rw [hg]; exact Nat.ne_of_gt (blk_lt (g := gb408) (o := .cells #[.int .u64 0, .int .i64 0, .int .i64 0, .int .u64 0, .int .u64 0, .int .i64 0, .int .i64 0] 34 (0, 0)) (by (with_reducible repeat (first | refine blk_drewN ?_ _ | refine blk_drew ?_ | refine blk_alloc ?_ _)); exact BK408.out)) : gb417 ≠ gb408)); clear BK408; clear HB; have BK408 := n0_; have HB := n1_; have BK417 := n2_; have GW417 := n3_; have GE417 := n4_; have NB408_417 := n5_; have NB417_408 := n6_; clear n0_ n1_ n2_ n3_ n4_ n5_ n6_; clear hb hbox hg; have hnb9 := NB417_408.out; have hnc9 := NB408_417.out; have hcz10_0 : w8.cell? ⟨gb417, 0, none⟩ = some (.int .u64 0) := (blk_cell BK417.out 0).trans rfl; have hcz10_1 : w8.cell? ⟨gb417, 1, none⟩ = some (.int .i64 0) := (blk_cell BK417.out 1).trans rfl; have hcz10_2 : w8.cell? ⟨gb417, 2, none⟩ = some (.int .i64 0) := (blk_cell BK417.out 2).trans rfl; have hcz10_3 : w8.cell? ⟨gb417, 3, none⟩ = some (.int .u64 0) := (blk_cell BK417.out 3).trans rfl; have hcz10_4 : w8.cell? ⟨gb417, 4, none⟩ = some (.int .u64 0) := (blk_cell BK417.out 4).trans rfl; have hcz10_5 : w8.cell? ⟨gb417, 5, none⟩ = some (.int .i64 0) := (blk_cell BK417.out 5).trans rfl; have hcz10_6 : w8.cell? ⟨gb417, 6, none⟩ = some (.int .i64 0) := (blk_cell BK417.out 6).trans rfl; have hfz10_0 := blk_frozen BK417.out 0; have hfz10_1 := blk_frozen BK417.out 1; have hfz10_2 := blk_frozen BK417.out 2; have hfz10_3 := blk_frozen BK417.out 3; have hfz10_4 := blk_frozen BK417.out 4; have hfz10_5 := blk_frozen BK417.out 5; have hfz10_6 := blk_frozen BK417.out 6) | ((with_reducible refine gate_callee (f := 16) rfl ?_); refine goesL_ (some 17) rfl rfl Try.func16 (by kernel_rfl) rfl #[.int .i64 1, .slice A1 l1.length c1] rfl (by (try simp only [List.map_toArray, List.map_cons, List.map_nil]); first | done | rfl | (simp only [List.length_drop, List.length_take]; rfl)) ?_; (with_reducible refine (stookref16_Get.calls k 1 _ _ l1 t418 t419 t420 t421 t422 t423 t424 t425 _ ?side1 ?side2 A4.out).mono ?_); (case side1 => exact Kd.C_below HR1.out (by repeat (first | (with_reducible first | exact HB.out | apply below_alloc | apply pw_below_drewN | apply below_drew1 | refine below_set ?_ GE408.out | refine below_set ?_ GE417.out) | exact HB.out))); (case side2 => exact HC1.out); rintro e w11 ⟨rfl, hb⟩; refine ⟨_, rfl, ?_⟩; have n0_ := Aside0.mk (blk_below (g := gb408) (o := .cells #[.int .u64 0, .int .i64 0, .int .i64 0, .int .u64 0, .int .u64 0, .int .i64 0, .int .i64 0] 34 (0, 0)) (by (with_reducible repeat (first | refine blk_drewN ?_ _ | refine blk_drew ?_ | refine blk_alloc ?_ _)); refine blk_far ?_ NB408_417.out _; (with_reducible repeat (first | refine blk_drewN ?_ _ | refine blk_drew ?_ | refine blk_alloc ?_ _)); refine blk_far ?_ NB408_417.out _; (with_reducible repeat (first | refine blk_drewN ?_ _ | refine blk_drew ?_ | refine blk_alloc ?_ _)); refine blk_far ?_ NB408_417.out _; (with_reducible repeat (first | refine blk_drewN ?_ _ | refine blk_drew ?_ | refine blk_alloc ?_ _)); refine blk_far ?_ NB408_417.out _; (with_reducible repeat (first | refine blk_drewN ?_ _ | refine blk_drew ?_ | refine blk_alloc ?_ _)); refine blk_far ?_ NB408_417.out _; (with_reducible repeat (first | refine blk_drewN ?_ _ | refine blk_drew ?_ | refine blk_alloc ?_ _)); refine blk_far ?_ NB408_417.out _; (with_reducible repeat (first | refine blk_drewN ?_ _ | refine blk_drew ?_ | refine blk_alloc ?_ _)); refine blk_far ?_ NB408_417.out _; (with_reducible repeat (first | refine blk_drewN ?_ _ | refine blk_drew ?_ | refine blk_alloc ?_ _)); exact BK408.out) hb); have n1_ := Aside0.mk (blk_below (g := gb417) (o := .cells #[.int .u64 t409, .int .i64 t410, .int .i64 t411, .int .u64 t412, .int .u64 t413, .int .i64 t414, .int .i64 t415] 34 (0, 0)) (by (with_reducible repeat (first | refine blk_drewN ?_ _ | refine blk_drew ?_ | refine blk_alloc ?_ _)); refine blk_put (cs := #[.int .u64 t409, .int .i64 t410, .int .i64 t411, .int .u64 t412, .int .u64 t413, .int .i64 t414, .int .i64 0]) ?_ 6 _ rfl; (with_reducible repeat (first | refine blk_drewN ?_ _ | refine blk_drew ?_ | refine blk_alloc ?_ _)); refine blk_put (cs := #[.int .u64 t409, .int .i64 t410, .int .i64 t411, .int .u64 t412, .int .u64 t413, .int .i64 0, .int .i64 0]) ?_ 5 _ rfl; (with_reducible repeat (first | refine blk_drewN ?_ _ | refine blk_drew ?_ | refine blk_alloc ?_ _)); refine blk_put (cs := #[.int .u64 t409, .int .i64 t410, .int .i64 t411, .int .u64 t412, .int .u64 0, .int .i64 0, .int .i64 0]) ?_ 4 _ rfl; (with_reducible repeat (first | refine blk_drewN ?_ _ | refine blk_drew ?_ | refine blk_alloc ?_ _)); refine blk_put (cs := #[.int .u64 t409, .int .i64 t410, .int .i64 t411, .int .u64 0, .int .u64 0, .int .i64 0, .int .i64 0]) ?_ 3 _ rfl; (with_reducible repeat (first | refine blk_drewN ?_ _ | refine blk_drew ?_ | refine blk_alloc ?_ _)); refine blk_put (cs := #[.int .u64 t409, .int .i64 t410, .int .i64 0, .int .u64 0, .int .u64 0, .int .i64 0, .int .i64 0]) ?_ 2 _ rfl; (with_reducible repeat (first | refine blk_drewN ?_ _ | refine blk_drew ?_ | refine blk_alloc ?_ _)); refine blk_put (cs := #[.int .u64 t409, .int .i64 0, .int .i64 0, .int .u64 0, .int .u64 0, .int .i64 0, .int .i64 0]) ?_ 1 _ rfl; (with_reducible repeat (first | refine blk_drewN ?_ _ | refine blk_drew ?_ | refine blk_alloc ?_ _)); refine blk_put (cs := #[.int .u64 0, .int .i64 0, .int .i64 0, .int .u64 0, .int .u64 0, .int .i64 0, .int .i64 0]) ?_ 0 _ rfl; (with_reducible repeat (first | refine blk_drewN ?_ _ | refine blk_drew ?_ | refine blk_alloc ?_ _)); exact BK417.out) hb); have n2_ := Aside0.mk (below_step (by repeat (first | (with_reducible first | exact HB.out | apply below_alloc | apply pw_below_drewN | apply below_drew1 | refine below_set ?_ GE408.out | refine below_set ?_ GE417.out) | exact HB.out)) hb); clear BK408; clear BK417; clear HB; have BK408 := n0_; have BK417 := n1_; have HB := n2_; clear n0_ n1_ n2_; (try clear hb); (try clear hb2); (try clear hk); (try clear hi)) | ((with_reducible refine gate_dst (N := 8) rfl ?_); refine box_event ?hg (N := 8) ?hd (cs := #[.int .u64 0, .int .i64 0, .int .i64 0, .int .u64 0, .int .u64 0, .int .i64 0, .int .i64 0]) (t := 34) ?hr ?_; (case hd => rfl); (case hg => rfl); (case hr => first | (go_simp; done) | (go_simp; rfl)); intro gb426 hg w12 hbox hb; have n0_ := Aside0.mk (blk_below (g := gb408) (o := .cells #[.int .u64 0, .int .i64 0, .int .i64 0, .int .u64 0, .int .u64 0, .int .i64 0, .int .i64 0] 34 (0, 0)) (by (with_reducible repeat (first | refine blk_drewN ?_ _ | refine blk_drew ?_ | refine blk_alloc ?_ _)); exact BK408.out) hb); have n1_ := Aside0.mk (blk_below (g := gb417) (o := .cells #[.int .u64 t409, .int .i64 t410, .int .i64 t411, .int .u64 t412, .int .u64 t413, .int .i64 t414, .int .i64 t415] 34 (0, 0)) (by (with_reducible repeat (first | refine blk_drewN ?_ _ | refine blk_drew ?_ | refine blk_alloc ?_ _)); exact BK417.out) hb); have n2_ := Aside0.mk (below_step (by repeat (first | (with_reducible first | exact HB.out | apply below_alloc | apply pw_below_drewN | apply below_drew1 | refine below_set ?_ GE408.out | refine below_set ?_ GE417.out) | exact HB.out)) hb); have n3_ := Aside0.mk (hbox); have n4_ := Aside0.mk ((by rw [hg]; exact (below_size (by repeat (first | (with_reducible first | exact HB.out | apply below_alloc | apply pw_below_drewN | apply below_drew1 | refine below_set ?_ GE408.out | refine below_set ?_ GE417.out) | exact HB.out))) : w.heap.size ≤ gb426)); have n5_ := Aside0.mk ((by rw [hg]; exact (below_size (by repeat (first | (with_reducible first | exact HB.out | apply below_alloc | apply pw_below_drewN | apply below_drew1 | refine below_set ?_ GE408.out | refine below_set ?_ GE417.out) | exact HB.out))) : w.heap.size ≤ gb426)); have n6_ := Aside0.mk ((by rw [hg]; exact Nat.ne_of_lt (blk_lt (g := gb408) (o := .cells #[.int .u64 0, .int .i64 0, .int .i64 0, .int .u64 0, .int .u64 0, .int .i64 0, .int .i64 0] 34 (0, 0)) (by (with_reducible repeat (first | refine blk_drewN ?_ _ | refine blk_drew ?_ | refine blk_alloc ?_ _)); exact BK408.out)) : gb408 ≠ gb426)); have n7_ := Aside0.mk ((by rw [hg]; exact Nat.ne_of_gt (blk_lt (g := gb408) (o := .cells #[.int .u64 0, .int .i64 0, .int .i64 0, .int .u64 0, .int .u64 0, .int .i64 0, .int .i64 0] 34 (0, 0)) (by (with_reducible repeat (first | refine blk_drewN ?_ _ | refine blk_drew ?_ | refine blk_alloc ?_ _)); exact BK408.out)) : gb426 ≠ gb408)); have n8_ := Aside0.mk ((by rw [hg]; exact Nat.ne_of_lt (blk_lt (g := gb417) (o := .cells #[.int .u64 t409, .int .i64 t410, .int .i64 t411, .int .u64 t412, .int .u64 t413, .int .i64 t414, .int .i64 t415] 34 (0, 0)) (by (with_reducible repeat (first | refine blk_drewN ?_ _ | refine blk_drew ?_ | refine blk_alloc ?_ _)); exact BK417.out)) : gb417 ≠ gb426)); have n9_ := Aside0.mk ((by rw [hg]; exact Nat.ne_of_gt (blk_lt (g := gb417) (o := .cells #[.int .u64 t409, .int .i64 t410, .int .i64 t411, .int .u64 t412, .int .u64 t413, .int .i64 t414, .int .i64 t415] 34 (0, 0)) (by (with_reducible repeat (first | refine blk_drewN ?_ _ | refine blk_drew ?_ | refine blk_alloc ?_ _)); exact BK417.out)) : gb426 ≠ gb417)); clear BK408; clear BK417; clear HB; have BK408 := n0_; have BK417 := n1_; have HB := n2_; have BK426 := n3_; have GW426 := n4_; have GE426 := n5_; have NB408_426 := n6_; have NB426_408 := n7_; have NB417_426 := n8_; have NB426_417 := n9_; clear n0_ n1_ n2_ n3_ n4_ n5_ n6_ n7_ n8_ n9_; clear hb hbox hg; have hnb13 := NB426_408.out; have hnc13 := NB408_426.out; have hnb14 := NB426_417.out; have hnc14 := NB417_426.out; have hcz15_0 : w12.cell? ⟨gb426, 0, none⟩ = some (.int .u64 0) := (blk_cell BK426.out 0).trans rfl; have hcz15_1 : w12.cell? ⟨gb426, 1, none⟩ = some (.int .i64 0) := (blk_cell BK426.out 1).trans rfl; have hcz15_2 : w12.cell? ⟨gb426, 2, none⟩ = some (.int .i64 0) := (blk_cell BK426.out 2).trans rfl; have hcz15_3 : w12.cell? ⟨gb426, 3, none⟩ = some (.int .u64 0) := (blk_cell BK426.out 3).trans rfl; have hcz15_4 : w12.cell? ⟨gb426, 4, none⟩ = some (.int .u64 0) := (blk_cell BK426.out 4).trans rfl; have hcz15_5 : w12.cell? ⟨gb426, 5, none⟩ = some (.int .i64 0) := (blk_cell BK426.out 5).trans rfl; have hcz15_6 : w12.cell? ⟨gb426, 6, none⟩ = some (.int .i64 0) := (blk_cell BK426.out 6).trans rfl; have hfz15_0 := blk_frozen BK426.out 0; have hfz15_1 := blk_frozen BK426.out 1; have hfz15_2 := blk_frozen BK426.out 2; have hfz15_3 := blk_frozen BK426.out 3; have hfz15_4 := blk_frozen BK426.out 4; have hfz15_5 := blk_frozen BK426.out 5; have hfz15_6 := blk_frozen BK426.out 6))
  (try simp only [Act.put, List.setIfInBounds_toArray, List.set_cons_zero, List.set_cons_succ])
  go_cut [25] (fun v25 wc => ∃ (kq : Nat) (x25_4 : Bool), v25 = .bool x25_4 ∧ Aside0 (stookref16_Pick.j0 kq t416 t425 x25_4 t409 t410 t411 t412 t413 t414 t415 t418 t419 t420 t421 t422 t423 t424 = some (r1, r2, r3, r4, r5, r6, r7, r8)) ∧ Aside0 (kq ≤ k) ∧ Aside0 (wc.heap[gb408]? = some (.cells #[.int .u64 0, .int .i64 0, .int .i64 0, .int .u64 0, .int .u64 0, .int .i64 0, .int .i64 0] 34 (0, 0))) ∧ Aside0 (wc.heap[gb417]? = some (.cells #[.int .u64 t409, .int .i64 t410, .int .i64 t411, .int .u64 t412, .int .u64 t413, .int .i64 t414, .int .i64 t415] 34 (0, 0))) ∧ Aside0 (wc.heap[gb426]? = some (.cells #[.int .u64 t418, .int .i64 t419, .int .i64 t420, .int .u64 t421, .int .u64 t422, .int .i64 t423, .int .i64 t424] 34 (0, 0))) ∧ Aside0 (Below w.heap.size w wc))
  case first =>
    have H := HC5.out
    clear HC5
    by_cases c16 : t416 = 0
    · rw [if_pos c16] at H
      have c16b0 : (t416 == 0) = true := beq_iff_eq.mpr c16
      have c16b1 : (t416 != 0) = false := bne_eq_false_iff_eq.mpr c16
      clear c16
      (first | rw [c16b0] | (simp only [i64_w, i32_w]; rw [c16b0]) | skip)
      have H' := Aside0.mk H
      clear H
      go_wp2
      go_meet
      case rel => exact ⟨_, (false), (by first | rfl | (simp; done) | (simp [*]; done)), H', ⟨by first | omega | exact Nat.le_refl _⟩, ⟨by (with_reducible repeat (first | refine blk_drewN ?_ _ | refine blk_drew ?_ | refine blk_alloc ?_ _)); refine blk_far ?_ NB408_426.out _; (with_reducible repeat (first | refine blk_drewN ?_ _ | refine blk_drew ?_ | refine blk_alloc ?_ _)); refine blk_far ?_ NB408_426.out _; (with_reducible repeat (first | refine blk_drewN ?_ _ | refine blk_drew ?_ | refine blk_alloc ?_ _)); refine blk_far ?_ NB408_426.out _; (with_reducible repeat (first | refine blk_drewN ?_ _ | refine blk_drew ?_ | refine blk_alloc ?_ _)); refine blk_far ?_ NB408_426.out _; (with_reducible repeat (first | refine blk_drewN ?_ _ | refine blk_drew ?_ | refine blk_alloc ?_ _)); refine blk_far ?_ NB408_426.out _; (with_reducible repeat (first | refine blk_drewN ?_ _ | refine blk_drew ?_ | refine blk_alloc ?_ _)); refine blk_far ?_ NB408_426.out _; (with_reducible repeat (first | refine blk_drewN ?_ _ | refine blk_drew ?_ | refine blk_alloc ?_ _)); refine blk_far ?_ NB408_426.out _; (with_reducible repeat (first | refine blk_drewN ?_ _ | refine blk_drew ?_ | refine blk_alloc ?_ _)); exact BK408.out⟩, ⟨by (with_reducible repeat (first | refine blk_drewN ?_ _ | refine blk_drew ?_ | refine blk_alloc ?_ _)); refine blk_far ?_ NB417_426.out _; (with_reducible repeat (first | refine blk_drewN ?_ _ | refine blk_drew ?_ | refine blk_alloc ?_ _)); refine blk_far ?_ NB417_426.out _; (with_reducible repeat (first | refine blk_drewN ?_ _ | refine blk_drew ?_ | refine blk_alloc ?_ _)); refine blk_far ?_ NB417_426.out _; (with_reducible repeat (first | refine blk_drewN ?_ _ | refine blk_drew ?_ | refine blk_alloc ?_ _)); refine blk_far ?_ NB417_426.out _; (with_reducible repeat (first | refine blk_drewN ?_ _ | refine blk_drew ?_ | refine blk_alloc ?_ _)); refine blk_far ?_ NB417_426.out _; (with_reducible repeat (first | refine blk_drewN ?_ _ | refine blk_drew ?_ | refine blk_alloc ?_ _)); refine blk_far ?_ NB417_426.out _; (with_reducible repeat (first | refine blk_drewN ?_ _ | refine blk_drew ?_ | refine blk_alloc ?_ _)); refine blk_far ?_ NB417_426.out _; (with_reducible repeat (first | refine blk_drewN ?_ _ | refine blk_drew ?_ | refine blk_alloc ?_ _)); exact BK417.out⟩, ⟨by (with_reducible repeat (first | refine blk_drewN ?_ _ | refine blk_drew ?_ | refine blk_alloc ?_ _)); refine blk_put (cs := #[.int .u64 t418, .int .i64 t419, .int .i64 t420, .int .u64 t421, .int .u64 t422, .int .i64 t423, .int .i64 0]) ?_ 6 _ rfl; (with_reducible repeat (first | refine blk_drewN ?_ _ | refine blk_drew ?_ | refine blk_alloc ?_ _)); refine blk_put (cs := #[.int .u64 t418, .int .i64 t419, .int .i64 t420, .int .u64 t421, .int .u64 t422, .int .i64 0, .int .i64 0]) ?_ 5 _ rfl; (with_reducible repeat (first | refine blk_drewN ?_ _ | refine blk_drew ?_ | refine blk_alloc ?_ _)); refine blk_put (cs := #[.int .u64 t418, .int .i64 t419, .int .i64 t420, .int .u64 t421, .int .u64 0, .int .i64 0, .int .i64 0]) ?_ 4 _ rfl; (with_reducible repeat (first | refine blk_drewN ?_ _ | refine blk_drew ?_ | refine blk_alloc ?_ _)); refine blk_put (cs := #[.int .u64 t418, .int .i64 t419, .int .i64 t420, .int .u64 0, .int .u64 0, .int .i64 0, .int .i64 0]) ?_ 3 _ rfl; (with_reducible repeat (first | refine blk_drewN ?_ _ | refine blk_drew ?_ | refine blk_alloc ?_ _)); refine blk_put (cs := #[.int .u64 t418, .int .i64 t419, .int .i64 0, .int .u64 0, .int .u64 0, .int .i64 0, .int .i64 0]) ?_ 2 _ rfl; (with_reducible repeat (first | refine blk_drewN ?_ _ | refine blk_drew ?_ | refine blk_alloc ?_ _)); refine blk_put (cs := #[.int .u64 t418, .int .i64 0, .int .i64 0, .int .u64 0, .int .u64 0, .int .i64 0, .int .i64 0]) ?_ 1 _ rfl; (with_reducible repeat (first | refine blk_drewN ?_ _ | refine blk_drew ?_ | refine blk_alloc ?_ _)); refine blk_put (cs := #[.int .u64 0, .int .i64 0, .int .i64 0, .int .u64 0, .int .u64 0, .int .i64 0, .int .i64 0]) ?_ 0 _ rfl; (with_reducible repeat (first | refine blk_drewN ?_ _ | refine blk_drew ?_ | refine blk_alloc ?_ _)); exact BK426.out⟩, ⟨by repeat (first | (with_reducible first | exact HB.out | apply below_alloc | apply pw_below_drewN | apply below_drew1 | refine below_set ?_ GE408.out | refine below_set ?_ GE417.out | refine below_set ?_ GE426.out) | exact HB.out)⟩⟩
    · rw [if_neg c16] at H
      have c16b0 : (t416 == 0) = false := beq_eq_false_iff_ne.mpr c16
      have c16b1 : (t416 != 0) = true := bne_iff_ne.mpr c16
      (first | rw [c16b0] | (simp only [i64_w, i32_w]; rw [c16b0]) | skip)
      have H' := Aside0.mk H
      clear H
      go_wp2
      go_meet
      case rel => exact ⟨_, ((t425 != 0)), (by first | rfl | (simp; done) | (simp [*]; done)), H', ⟨by first | omega | exact Nat.le_refl _⟩, ⟨by (with_reducible repeat (first | refine blk_drewN ?_ _ | refine blk_drew ?_ | refine blk_alloc ?_ _)); refine blk_far ?_ NB408_426.out _; (with_reducible repeat (first | refine blk_drewN ?_ _ | refine blk_drew ?_ | refine blk_alloc ?_ _)); refine blk_far ?_ NB408_426.out _; (with_reducible repeat (first | refine blk_drewN ?_ _ | refine blk_drew ?_ | refine blk_alloc ?_ _)); refine blk_far ?_ NB408_426.out _; (with_reducible repeat (first | refine blk_drewN ?_ _ | refine blk_drew ?_ | refine blk_alloc ?_ _)); refine blk_far ?_ NB408_426.out _; (with_reducible repeat (first | refine blk_drewN ?_ _ | refine blk_drew ?_ | refine blk_alloc ?_ _)); refine blk_far ?_ NB408_426.out _; (with_reducible repeat (first | refine blk_drewN ?_ _ | refine blk_drew ?_ | refine blk_alloc ?_ _)); refine blk_far ?_ NB408_426.out _; (with_reducible repeat (first | refine blk_drewN ?_ _ | refine blk_drew ?_ | refine blk_alloc ?_ _)); refine blk_far ?_ NB408_426.out _; (with_reducible repeat (first | refine blk_drewN ?_ _ | refine blk_drew ?_ | refine blk_alloc ?_ _)); exact BK408.out⟩, ⟨by (with_reducible repeat (first | refine blk_drewN ?_ _ | refine blk_drew ?_ | refine blk_alloc ?_ _)); refine blk_far ?_ NB417_426.out _; (with_reducible repeat (first | refine blk_drewN ?_ _ | refine blk_drew ?_ | refine blk_alloc ?_ _)); refine blk_far ?_ NB417_426.out _; (with_reducible repeat (first | refine blk_drewN ?_ _ | refine blk_drew ?_ | refine blk_alloc ?_ _)); refine blk_far ?_ NB417_426.out _; (with_reducible repeat (first | refine blk_drewN ?_ _ | refine blk_drew ?_ | refine blk_alloc ?_ _)); refine blk_far ?_ NB417_426.out _; (with_reducible repeat (first | refine blk_drewN ?_ _ | refine blk_drew ?_ | refine blk_alloc ?_ _)); refine blk_far ?_ NB417_426.out _; (with_reducible repeat (first | refine blk_drewN ?_ _ | refine blk_drew ?_ | refine blk_alloc ?_ _)); refine blk_far ?_ NB417_426.out _; (with_reducible repeat (first | refine blk_drewN ?_ _ | refine blk_drew ?_ | refine blk_alloc ?_ _)); refine blk_far ?_ NB417_426.out _; (with_reducible repeat (first | refine blk_drewN ?_ _ | refine blk_drew ?_ | refine blk_alloc ?_ _)); exact BK417.out⟩, ⟨by (with_reducible repeat (first | refine blk_drewN ?_ _ | refine blk_drew ?_ | refine blk_alloc ?_ _)); refine blk_put (cs := #[.int .u64 t418, .int .i64 t419, .int .i64 t420, .int .u64 t421, .int .u64 t422, .int .i64 t423, .int .i64 0]) ?_ 6 _ rfl; (with_reducible repeat (first | refine blk_drewN ?_ _ | refine blk_drew ?_ | refine blk_alloc ?_ _)); refine blk_put (cs := #[.int .u64 t418, .int .i64 t419, .int .i64 t420, .int .u64 t421, .int .u64 t422, .int .i64 0, .int .i64 0]) ?_ 5 _ rfl; (with_reducible repeat (first | refine blk_drewN ?_ _ | refine blk_drew ?_ | refine blk_alloc ?_ _)); refine blk_put (cs := #[.int .u64 t418, .int .i64 t419, .int .i64 t420, .int .u64 t421, .int .u64 0, .int .i64 0, .int .i64 0]) ?_ 4 _ rfl; (with_reducible repeat (first | refine blk_drewN ?_ _ | refine blk_drew ?_ | refine blk_alloc ?_ _)); refine blk_put (cs := #[.int .u64 t418, .int .i64 t419, .int .i64 t420, .int .u64 0, .int .u64 0, .int .i64 0, .int .i64 0]) ?_ 3 _ rfl; (with_reducible repeat (first | refine blk_drewN ?_ _ | refine blk_drew ?_ | refine blk_alloc ?_ _)); refine blk_put (cs := #[.int .u64 t418, .int .i64 t419, .int .i64 0, .int .u64 0, .int .u64 0, .int .i64 0, .int .i64 0]) ?_ 2 _ rfl; (with_reducible repeat (first | refine blk_drewN ?_ _ | refine blk_drew ?_ | refine blk_alloc ?_ _)); refine blk_put (cs := #[.int .u64 t418, .int .i64 0, .int .i64 0, .int .u64 0, .int .u64 0, .int .i64 0, .int .i64 0]) ?_ 1 _ rfl; (with_reducible repeat (first | refine blk_drewN ?_ _ | refine blk_drew ?_ | refine blk_alloc ?_ _)); refine blk_put (cs := #[.int .u64 0, .int .i64 0, .int .i64 0, .int .u64 0, .int .u64 0, .int .i64 0, .int .i64 0]) ?_ 0 _ rfl; (with_reducible repeat (first | refine blk_drewN ?_ _ | refine blk_drew ?_ | refine blk_alloc ?_ _)); exact BK426.out⟩, ⟨by repeat (first | (with_reducible first | exact HB.out | apply below_alloc | apply pw_below_drewN | apply below_drew1 | refine below_set ?_ GE408.out | refine below_set ?_ GE417.out | refine below_set ?_ GE426.out) | exact HB.out)⟩⟩
  case rest =>
    clear HC5
    try clear c1
    try clear c2
    try clear p2
    try clear c9
    try clear c13
    try clear c14
    try clear c16
    try clear c16b0
    try clear c16b1
    try clear hcz10_0
    try clear hcz10_1
    try clear hcz10_2
    try clear hcz10_3
    try clear hcz10_4
    try clear hcz10_5
    try clear hcz10_6
    try clear hcz15_0
    try clear hcz15_1
    try clear hcz15_2
    try clear hcz15_3
    try clear hcz15_4
    try clear hcz15_5
    try clear hcz15_6
    try clear hfz10_0
    try clear hfz10_1
    try clear hfz10_2
    try clear hfz10_3
    try clear hfz10_4
    try clear hfz10_5
    try clear hfz10_6
    try clear hfz15_0
    try clear hfz15_1
    try clear hfz15_2
    try clear hfz15_3
    try clear hfz15_4
    try clear hfz15_5
    try clear hfz15_6
    obtain ⟨kq, x25_4, rfl, HA, HJ4, BK408, BK417, BK426, HB⟩ := hcut
    cases kq with
    | zero => exact absurd HA.out (by simp [stookref16_Pick.j0])
    | succ kj4 =>
      have H := HA.out
      clear HA
      simp only [stookref16_Pick.j0] at H
      by_cases c17 : x25_4 = true
      · subst c17
        have H1 : (some (0, 0, 0, 0, 0, 0, 0, 7)) = some (r1, r2, r3, r4, r5, r6, r7, r8) := by rw [if_pos rfl] at H; exact H
        clear H
        have H := H1
        clear H1
        simp only [Option.some.injEq, Prod.mk.injEq] at H
        obtain ⟨rfl, rfl, rfl, rfl, rfl, rfl, rfl, rfl⟩ := H
        have hnb18 := NB408_417.out
        have hnc18 := NB417_408.out
        have hnb19 := NB408_426.out
        have hnc19 := NB426_408.out
        have hcz20_0 : wc.cell? ⟨gb408, 0, none⟩ = some (.int .u64 0) := (blk_cell BK408.out 0).trans rfl
        have hcz20_1 : wc.cell? ⟨gb408, 1, none⟩ = some (.int .i64 0) := (blk_cell BK408.out 1).trans rfl
        have hcz20_2 : wc.cell? ⟨gb408, 2, none⟩ = some (.int .i64 0) := (blk_cell BK408.out 2).trans rfl
        have hcz20_3 : wc.cell? ⟨gb408, 3, none⟩ = some (.int .u64 0) := (blk_cell BK408.out 3).trans rfl
        have hcz20_4 : wc.cell? ⟨gb408, 4, none⟩ = some (.int .u64 0) := (blk_cell BK408.out 4).trans rfl
        have hcz20_5 : wc.cell? ⟨gb408, 5, none⟩ = some (.int .i64 0) := (blk_cell BK408.out 5).trans rfl
        have hcz20_6 : wc.cell? ⟨gb408, 6, none⟩ = some (.int .i64 0) := (blk_cell BK408.out 6).trans rfl
        have hfz20_0 := blk_frozen BK408.out 0
        have hfz20_1 := blk_frozen BK408.out 1
        have hfz20_2 := blk_frozen BK408.out 2
        have hfz20_3 := blk_frozen BK408.out 3
        have hfz20_4 := blk_frozen BK408.out 4
        have hfz20_5 := blk_frozen BK408.out 5
        have hfz20_6 := blk_frozen BK408.out 6
        go_wp2
        refine bodyPost_ret (results_ct rfl _ _ gb408 34 #[.int .u64 0, .int .i64 0, .int .i64 0, .int .u64 0, .int .u64 0, .int .i64 0, .int .i64 0] (0, 0) _ rfl (by (with_reducible repeat (first | refine blk_drewN ?_ _ | refine blk_drew ?_ | refine blk_alloc ?_ _)); refine blk_put (cs := #[.int .u64 0, .int .i64 0, .int .i64 0, .int .u64 0, .int .u64 0, .int .i64 0, .int .i64 0]) ?_ 6 _ rfl; (with_reducible repeat (first | refine blk_drewN ?_ _ | refine blk_drew ?_ | refine blk_alloc ?_ _)); refine blk_put (cs := #[.int .u64 0, .int .i64 0, .int .i64 0, .int .u64 0, .int .u64 0, .int .i64 0, .int .i64 0]) ?_ 5 _ rfl; (with_reducible repeat (first | refine blk_drewN ?_ _ | refine blk_drew ?_ | refine blk_alloc ?_ _)); refine blk_put (cs := #[.int .u64 0, .int .i64 0, .int .i64 0, .int .u64 0, .int .u64 0, .int .i64 0, .int .i64 0]) ?_ 4 _ rfl; (with_reducible repeat (first | refine blk_drewN ?_ _ | refine blk_drew ?_ | refine blk_alloc ?_ _)); refine blk_put (cs := #[.int .u64 0, .int .i64 0, .int .i64 0, .int .u64 0, .int .u64 0, .int .i64 0, .int .i64 0]) ?_ 3 _ rfl; (with_reducible repeat (first | refine blk_drewN ?_ _ | refine blk_drew ?_ | refine blk_alloc ?_ _)); refine blk_put (cs := #[.int .u64 0, .int .i64 0, .int .i64 0, .int .u64 0, .int .u64 0, .int .i64 0, .int .i64 0]) ?_ 2 _ rfl; (with_reducible repeat (first | refine blk_drewN ?_ _ | refine blk_drew ?_ | refine blk_alloc ?_ _)); refine blk_put (cs := #[.int .u64 0, .int .i64 0, .int .i64 0, .int .u64 0, .int .u64 0, .int .i64 0, .int .i64 0]) ?_ 1 _ rfl; (with_reducible repeat (first | refine blk_drewN ?_ _ | refine blk_drew ?_ | refine blk_alloc ?_ _)); refine blk_put (cs := #[.int .u64 0, .int .i64 0, .int .i64 0, .int .u64 0, .int .u64 0, .int .i64 0, .int .i64 0]) ?_ 0 _ rfl; (with_reducible repeat (first | refine blk_drewN ?_ _ | refine blk_drew ?_ | refine blk_alloc ?_ _)); exact BK408.out) Try.underlying34 rfl (by kernel_rfl)) rfl ?_
        exact ⟨by first | rfl | (simp [errW_none, errW_some] <;> rfl) | (simp [*, errW_none, errW_some] <;> rfl), by repeat (first | (with_reducible first | exact HB.out | apply below_alloc | apply pw_below_drewN | apply below_drew1 | refine below_set ?_ GE408.out | refine below_set ?_ GE417.out | refine below_set ?_ GE426.out) | exact HB.out)⟩
      · replace c17 := Bool.eq_false_iff.mpr c17
        subst c17
        have H1 : (if t416 = 0 then (if t425 = 0 then (if t409 > t418 then (some (t409, t410, t411, t412, t413, t414, t415, 0)) else (some (t418, t419, t420, t421, t422, t423, t424, 0))) else (some (t409, t410, t411, t412, t413, t414, t415, 0))) else (some (t418, t419, t420, t421, t422, t423, t424, 0))) = some (r1, r2, r3, r4, r5, r6, r7, r8) := by rw [if_neg (show ¬ (false = true) by decide)] at H; exact H
        clear H
        have H := H1
        clear H1
        by_cases c21 : t416 = 0
        · rw [if_pos c21] at H
          have c21b0 : (t416 == 0) = true := beq_iff_eq.mpr c21
          have c21b1 : (t416 != 0) = false := bne_eq_false_iff_eq.mpr c21
          clear c21
          by_cases c22 : t425 = 0
          · rw [if_pos c22] at H
            have c22b0 : (t425 == 0) = true := beq_iff_eq.mpr c22
            have c22b1 : (t425 != 0) = false := bne_eq_false_iff_eq.mpr c22
            clear c22
            by_cases c23 : t409 > t418
            · rw [if_pos c23] at H
              have c23b0 : decide (t418 < t409) = true := decide_eq_true c23
              clear c23
              simp only [Option.some.injEq, Prod.mk.injEq] at H
              obtain ⟨rfl, rfl, rfl, rfl, rfl, rfl, rfl, rfl⟩ := H
              have hnb24 := NB417_408.out
              have hnc24 := NB408_417.out
              have hnb25 := NB417_426.out
              have hnc25 := NB426_417.out
              have hcz26_0 : wc.cell? ⟨gb417, 0, none⟩ = some (.int .u64 t409) := (blk_cell BK417.out 0).trans rfl
              have hcz26_1 : wc.cell? ⟨gb417, 1, none⟩ = some (.int .i64 t410) := (blk_cell BK417.out 1).trans rfl
              have hcz26_2 : wc.cell? ⟨gb417, 2, none⟩ = some (.int .i64 t411) := (blk_cell BK417.out 2).trans rfl
              have hcz26_3 : wc.cell? ⟨gb417, 3, none⟩ = some (.int .u64 t412) := (blk_cell BK417.out 3).trans rfl
              have hcz26_4 : wc.cell? ⟨gb417, 4, none⟩ = some (.int .u64 t413) := (blk_cell BK417.out 4).trans rfl
              have hcz26_5 : wc.cell? ⟨gb417, 5, none⟩ = some (.int .i64 t414) := (blk_cell BK417.out 5).trans rfl
              have hcz26_6 : wc.cell? ⟨gb417, 6, none⟩ = some (.int .i64 t415) := (blk_cell BK417.out 6).trans rfl
              have hfz26_0 := blk_frozen BK417.out 0
              have hfz26_1 := blk_frozen BK417.out 1
              have hfz26_2 := blk_frozen BK417.out 2
              have hfz26_3 := blk_frozen BK417.out 3
              have hfz26_4 := blk_frozen BK417.out 4
              have hfz26_5 := blk_frozen BK417.out 5
              have hfz26_6 := blk_frozen BK417.out 6
              have hnb27 := NB426_408.out
              have hnc27 := NB408_426.out
              have hcz28_0 : wc.cell? ⟨gb426, 0, none⟩ = some (.int .u64 t418) := (blk_cell BK426.out 0).trans rfl
              have hcz28_1 : wc.cell? ⟨gb426, 1, none⟩ = some (.int .i64 t419) := (blk_cell BK426.out 1).trans rfl
              have hcz28_2 : wc.cell? ⟨gb426, 2, none⟩ = some (.int .i64 t420) := (blk_cell BK426.out 2).trans rfl
              have hcz28_3 : wc.cell? ⟨gb426, 3, none⟩ = some (.int .u64 t421) := (blk_cell BK426.out 3).trans rfl
              have hcz28_4 : wc.cell? ⟨gb426, 4, none⟩ = some (.int .u64 t422) := (blk_cell BK426.out 4).trans rfl
              have hcz28_5 : wc.cell? ⟨gb426, 5, none⟩ = some (.int .i64 t423) := (blk_cell BK426.out 5).trans rfl
              have hcz28_6 : wc.cell? ⟨gb426, 6, none⟩ = some (.int .i64 t424) := (blk_cell BK426.out 6).trans rfl
              have hfz28_0 := blk_frozen BK426.out 0
              have hfz28_1 := blk_frozen BK426.out 1
              have hfz28_2 := blk_frozen BK426.out 2
              have hfz28_3 := blk_frozen BK426.out 3
              have hfz28_4 := blk_frozen BK426.out 4
              have hfz28_5 := blk_frozen BK426.out 5
              have hfz28_6 := blk_frozen BK426.out 6
              have hcz29_0 : wc.cell? ⟨gb408, 0, none⟩ = some (.int .u64 0) := (blk_cell BK408.out 0).trans rfl
              have hcz29_1 : wc.cell? ⟨gb408, 1, none⟩ = some (.int .i64 0) := (blk_cell BK408.out 1).trans rfl
              have hcz29_2 : wc.cell? ⟨gb408, 2, none⟩ = some (.int .i64 0) := (blk_cell BK408.out 2).trans rfl
              have hcz29_3 : wc.cell? ⟨gb408, 3, none⟩ = some (.int .u64 0) := (blk_cell BK408.out 3).trans rfl
              have hcz29_4 : wc.cell? ⟨gb408, 4, none⟩ = some (.int .u64 0) := (blk_cell BK408.out 4).trans rfl
              have hcz29_5 : wc.cell? ⟨gb408, 5, none⟩ = some (.int .i64 0) := (blk_cell BK408.out 5).trans rfl
              have hcz29_6 : wc.cell? ⟨gb408, 6, none⟩ = some (.int .i64 0) := (blk_cell BK408.out 6).trans rfl
              have hfz29_0 := blk_frozen BK408.out 0
              have hfz29_1 := blk_frozen BK408.out 1
              have hfz29_2 := blk_frozen BK408.out 2
              have hfz29_3 := blk_frozen BK408.out 3
              have hfz29_4 := blk_frozen BK408.out 4
              have hfz29_5 := blk_frozen BK408.out 5
              have hfz29_6 := blk_frozen BK408.out 6
              go_wp2
              refine bodyPost_ret (results_ct rfl _ _ gb408 34 #[.int .u64 t409, .int .i64 t410, .int .i64 t411, .int .u64 t412, .int .u64 t413, .int .i64 t414, .int .i64 t415] (0, 0) _ rfl (by (with_reducible repeat (first | refine blk_drewN ?_ _ | refine blk_drew ?_ | refine blk_alloc ?_ _)); refine blk_put (cs := #[.int .u64 t409, .int .i64 t410, .int .i64 t411, .int .u64 t412, .int .u64 t413, .int .i64 t414, .int .i64 0]) ?_ 6 _ rfl; (with_reducible repeat (first | refine blk_drewN ?_ _ | refine blk_drew ?_ | refine blk_alloc ?_ _)); refine blk_put (cs := #[.int .u64 t409, .int .i64 t410, .int .i64 t411, .int .u64 t412, .int .u64 t413, .int .i64 0, .int .i64 0]) ?_ 5 _ rfl; (with_reducible repeat (first | refine blk_drewN ?_ _ | refine blk_drew ?_ | refine blk_alloc ?_ _)); refine blk_put (cs := #[.int .u64 t409, .int .i64 t410, .int .i64 t411, .int .u64 t412, .int .u64 0, .int .i64 0, .int .i64 0]) ?_ 4 _ rfl; (with_reducible repeat (first | refine blk_drewN ?_ _ | refine blk_drew ?_ | refine blk_alloc ?_ _)); refine blk_put (cs := #[.int .u64 t409, .int .i64 t410, .int .i64 t411, .int .u64 0, .int .u64 0, .int .i64 0, .int .i64 0]) ?_ 3 _ rfl; (with_reducible repeat (first | refine blk_drewN ?_ _ | refine blk_drew ?_ | refine blk_alloc ?_ _)); refine blk_put (cs := #[.int .u64 t409, .int .i64 t410, .int .i64 0, .int .u64 0, .int .u64 0, .int .i64 0, .int .i64 0]) ?_ 2 _ rfl; (with_reducible repeat (first | refine blk_drewN ?_ _ | refine blk_drew ?_ | refine blk_alloc ?_ _)); refine blk_put (cs := #[.int .u64 t409, .int .i64 0, .int .i64 0, .int .u64 0, .int .u64 0, .int .i64 0, .int .i64 0]) ?_ 1 _ rfl; (with_reducible repeat (first | refine blk_drewN ?_ _ | refine blk_drew ?_ | refine blk_alloc ?_ _)); refine blk_put (cs := #[.int .u64 0, .int .i64 0, .int .i64 0, .int .u64 0, .int .u64 0, .int .i64 0, .int .i64 0]) ?_ 0 _ rfl; (with_reducible repeat (first | refine blk_drewN ?_ _ | refine blk_drew ?_ | refine blk_alloc ?_ _)); exact BK408.out) Try.underlying34 rfl (by kernel_rfl)) rfl ?_
              exact ⟨by first | rfl | (simp [errW_none, errW_some] <;> rfl) | (simp [*, errW_none, errW_some] <;> rfl), by repeat (first | (with_reducible first | exact HB.out | apply below_alloc | apply pw_below_drewN | apply below_drew1 | refine below_set ?_ GE408.out | refine below_set ?_ GE417.out | refine below_set ?_ GE426.out) | exact HB.out)⟩
            · rw [if_neg c23] at H
              have c23b0 : decide (t418 < t409) = false := decide_eq_false c23
              clear c23
              simp only [Option.some.injEq, Prod.mk.injEq] at H
              obtain ⟨rfl, rfl, rfl, rfl, rfl, rfl, rfl, rfl⟩ := H
              have hnb30 := NB417_408.out
              have hnc30 := NB408_417.out
              have hnb31 := NB417_426.out
              have hnc31 := NB426_417.out
              have hcz32_0 : wc.cell? ⟨gb417, 0, none⟩ = some (.int .u64 t409) := (blk_cell BK417.out 0).trans rfl
              have hcz32_1 : wc.cell? ⟨gb417, 1, none⟩ = some (.int .i64 t410) := (blk_cell BK417.out 1).trans rfl
              have hcz32_2 : wc.cell? ⟨gb417, 2, none⟩ = some (.int .i64 t411) := (blk_cell BK417.out 2).trans rfl
              have hcz32_3 : wc.cell? ⟨gb417, 3, none⟩ = some (.int .u64 t412) := (blk_cell BK417.out 3).trans rfl
              have hcz32_4 : wc.cell? ⟨gb417, 4, none⟩ = some (.int .u64 t413) := (blk_cell BK417.out 4).trans rfl
              have hcz32_5 : wc.cell? ⟨gb417, 5, none⟩ = some (.int .i64 t414) := (blk_cell BK417.out 5).trans rfl
              have hcz32_6 : wc.cell? ⟨gb417, 6, none⟩ = some (.int .i64 t415) := (blk_cell BK417.out 6).trans rfl
              have hfz32_0 := blk_frozen BK417.out 0
              have hfz32_1 := blk_frozen BK417.out 1
              have hfz32_2 := blk_frozen BK417.out 2
              have hfz32_3 := blk_frozen BK417.out 3
              have hfz32_4 := blk_frozen BK417.out 4
              have hfz32_5 := blk_frozen BK417.out 5
              have hfz32_6 := blk_frozen BK417.out 6
              have hnb33 := NB426_408.out
              have hnc33 := NB408_426.out
              have hcz34_0 : wc.cell? ⟨gb426, 0, none⟩ = some (.int .u64 t418) := (blk_cell BK426.out 0).trans rfl
              have hcz34_1 : wc.cell? ⟨gb426, 1, none⟩ = some (.int .i64 t419) := (blk_cell BK426.out 1).trans rfl
              have hcz34_2 : wc.cell? ⟨gb426, 2, none⟩ = some (.int .i64 t420) := (blk_cell BK426.out 2).trans rfl
              have hcz34_3 : wc.cell? ⟨gb426, 3, none⟩ = some (.int .u64 t421) := (blk_cell BK426.out 3).trans rfl
              have hcz34_4 : wc.cell? ⟨gb426, 4, none⟩ = some (.int .u64 t422) := (blk_cell BK426.out 4).trans rfl
              have hcz34_5 : wc.cell? ⟨gb426, 5, none⟩ = some (.int .i64 t423) := (blk_cell BK426.out 5).trans rfl
              have hcz34_6 : wc.cell? ⟨gb426, 6, none⟩ = some (.int .i64 t424) := (blk_cell BK426.out 6).trans rfl
              have hfz34_0 := blk_frozen BK426.out 0
              have hfz34_1 := blk_frozen BK426.out 1
              have hfz34_2 := blk_frozen BK426.out 2
              have hfz34_3 := blk_frozen BK426.out 3
              have hfz34_4 := blk_frozen BK426.out 4
              have hfz34_5 := blk_frozen BK426.out 5
              have hfz34_6 := blk_frozen BK426.out 6
              have hcz35_0 : wc.cell? ⟨gb408, 0, none⟩ = some (.int .u64 0) := (blk_cell BK408.out 0).trans rfl
              have hcz35_1 : wc.cell? ⟨gb408, 1, none⟩ = some (.int .i64 0) := (blk_cell BK408.out 1).trans rfl
              have hcz35_2 : wc.cell? ⟨gb408, 2, none⟩ = some (.int .i64 0) := (blk_cell BK408.out 2).trans rfl
              have hcz35_3 : wc.cell? ⟨gb408, 3, none⟩ = some (.int .u64 0) := (blk_cell BK408.out 3).trans rfl
              have hcz35_4 : wc.cell? ⟨gb408, 4, none⟩ = some (.int .u64 0) := (blk_cell BK408.out 4).trans rfl
              have hcz35_5 : wc.cell? ⟨gb408, 5, none⟩ = some (.int .i64 0) := (blk_cell BK408.out 5).trans rfl
              have hcz35_6 : wc.cell? ⟨gb408, 6, none⟩ = some (.int .i64 0) := (blk_cell BK408.out 6).trans rfl
              have hfz35_0 := blk_frozen BK408.out 0
              have hfz35_1 := blk_frozen BK408.out 1
              have hfz35_2 := blk_frozen BK408.out 2
              have hfz35_3 := blk_frozen BK408.out 3
              have hfz35_4 := blk_frozen BK408.out 4
              have hfz35_5 := blk_frozen BK408.out 5
              have hfz35_6 := blk_frozen BK408.out 6
              go_wp2
              refine bodyPost_ret (results_ct rfl _ _ gb408 34 #[.int .u64 t418, .int .i64 t419, .int .i64 t420, .int .u64 t421, .int .u64 t422, .int .i64 t423, .int .i64 t424] (0, 0) _ rfl (by (with_reducible repeat (first | refine blk_drewN ?_ _ | refine blk_drew ?_ | refine blk_alloc ?_ _)); refine blk_put (cs := #[.int .u64 t418, .int .i64 t419, .int .i64 t420, .int .u64 t421, .int .u64 t422, .int .i64 t423, .int .i64 0]) ?_ 6 _ rfl; (with_reducible repeat (first | refine blk_drewN ?_ _ | refine blk_drew ?_ | refine blk_alloc ?_ _)); refine blk_put (cs := #[.int .u64 t418, .int .i64 t419, .int .i64 t420, .int .u64 t421, .int .u64 t422, .int .i64 0, .int .i64 0]) ?_ 5 _ rfl; (with_reducible repeat (first | refine blk_drewN ?_ _ | refine blk_drew ?_ | refine blk_alloc ?_ _)); refine blk_put (cs := #[.int .u64 t418, .int .i64 t419, .int .i64 t420, .int .u64 t421, .int .u64 0, .int .i64 0, .int .i64 0]) ?_ 4 _ rfl; (with_reducible repeat (first | refine blk_drewN ?_ _ | refine blk_drew ?_ | refine blk_alloc ?_ _)); refine blk_put (cs := #[.int .u64 t418, .int .i64 t419, .int .i64 t420, .int .u64 0, .int .u64 0, .int .i64 0, .int .i64 0]) ?_ 3 _ rfl; (with_reducible repeat (first | refine blk_drewN ?_ _ | refine blk_drew ?_ | refine blk_alloc ?_ _)); refine blk_put (cs := #[.int .u64 t418, .int .i64 t419, .int .i64 0, .int .u64 0, .int .u64 0, .int .i64 0, .int .i64 0]) ?_ 2 _ rfl; (with_reducible repeat (first | refine blk_drewN ?_ _ | refine blk_drew ?_ | refine blk_alloc ?_ _)); refine blk_put (cs := #[.int .u64 t418, .int .i64 0, .int .i64 0, .int .u64 0, .int .u64 0, .int .i64 0, .int .i64 0]) ?_ 1 _ rfl; (with_reducible repeat (first | refine blk_drewN ?_ _ | refine blk_drew ?_ | refine blk_alloc ?_ _)); refine blk_put (cs := #[.int .u64 0, .int .i64 0, .int .i64 0, .int .u64 0, .int .u64 0, .int .i64 0, .int .i64 0]) ?_ 0 _ rfl; (with_reducible repeat (first | refine blk_drewN ?_ _ | refine blk_drew ?_ | refine blk_alloc ?_ _)); exact BK408.out) Try.underlying34 rfl (by kernel_rfl)) rfl ?_
              exact ⟨by first | rfl | (simp [errW_none, errW_some] <;> rfl) | (simp [*, errW_none, errW_some] <;> rfl), by repeat (first | (with_reducible first | exact HB.out | apply below_alloc | apply pw_below_drewN | apply below_drew1 | refine below_set ?_ GE408.out | refine below_set ?_ GE417.out | refine below_set ?_ GE426.out) | exact HB.out)⟩
          · rw [if_neg c22] at H
            have c22b0 : (t425 == 0) = false := beq_eq_false_iff_ne.mpr c22
            have c22b1 : (t425 != 0) = true := bne_iff_ne.mpr c22
            simp only [Option.some.injEq, Prod.mk.injEq] at H
            obtain ⟨rfl, rfl, rfl, rfl, rfl, rfl, rfl, rfl⟩ := H
            have hnb36 := NB417_408.out
            have hnc36 := NB408_417.out
            have hnb37 := NB417_426.out
            have hnc37 := NB426_417.out
            have hcz38_0 : wc.cell? ⟨gb417, 0, none⟩ = some (.int .u64 t409) := (blk_cell BK417.out 0).trans rfl
            have hcz38_1 : wc.cell? ⟨gb417, 1, none⟩ = some (.int .i64 t410) := (blk_cell BK417.out 1).trans rfl
            have hcz38_2 : wc.cell? ⟨gb417, 2, none⟩ = some (.int .i64 t411) := (blk_cell BK417.out 2).trans rfl
            have hcz38_3 : wc.cell? ⟨gb417, 3, none⟩ = some (.int .u64 t412) := (blk_cell BK417.out 3).trans rfl
            have hcz38_4 : wc.cell? ⟨gb417, 4, none⟩ = some (.int .u64 t413) := (blk_cell BK417.out 4).trans rfl
            have hcz38_5 : wc.cell? ⟨gb417, 5, none⟩ = some (.int .i64 t414) := (blk_cell BK417.out 5).trans rfl
            have hcz38_6 : wc.cell? ⟨gb417, 6, none⟩ = some (.int .i64 t415) := (blk_cell BK417.out 6).trans rfl
            have hfz38_0 := blk_frozen BK417.out 0
            have hfz38_1 := blk_frozen BK417.out 1
            have hfz38_2 := blk_frozen BK417.out 2
            have hfz38_3 := blk_frozen BK417.out 3
            have hfz38_4 := blk_frozen BK417.out 4
            have hfz38_5 := blk_frozen BK417.out 5
            have hfz38_6 := blk_frozen BK417.out 6
            have hnb39 := NB408_426.out
            have hnc39 := NB426_408.out
            have hcz40_0 : wc.cell? ⟨gb408, 0, none⟩ = some (.int .u64 0) := (blk_cell BK408.out 0).trans rfl
            have hcz40_1 : wc.cell? ⟨gb408, 1, none⟩ = some (.int .i64 0) := (blk_cell BK408.out 1).trans rfl
            have hcz40_2 : wc.cell? ⟨gb408, 2, none⟩ = some (.int .i64 0) := (blk_cell BK408.out 2).trans rfl
            have hcz40_3 : wc.cell? ⟨gb408, 3, none⟩ = some (.int .u64 0) := (blk_cell BK408.out 3).trans rfl
            have hcz40_4 : wc.cell? ⟨gb408, 4, none⟩ = some (.int .u64 0) := (blk_cell BK408.out 4).trans rfl
            have hcz40_5 : wc.cell? ⟨gb408, 5, none⟩ = some (.int .i64 0) := (blk_cell BK408.out 5).trans rfl
            have hcz40_6 : wc.cell? ⟨gb408, 6, none⟩ = some (.int .i64 0) := (blk_cell BK408.out 6).trans rfl
            have hfz40_0 := blk_frozen BK408.out 0
            have hfz40_1 := blk_frozen BK408.out 1
            have hfz40_2 := blk_frozen BK408.out 2
            have hfz40_3 := blk_frozen BK408.out 3
            have hfz40_4 := blk_frozen BK408.out 4
            have hfz40_5 := blk_frozen BK408.out 5
            have hfz40_6 := blk_frozen BK408.out 6
            go_wp2
            refine bodyPost_ret (results_ct rfl _ _ gb408 34 #[.int .u64 t409, .int .i64 t410, .int .i64 t411, .int .u64 t412, .int .u64 t413, .int .i64 t414, .int .i64 t415] (0, 0) _ rfl (by (with_reducible repeat (first | refine blk_drewN ?_ _ | refine blk_drew ?_ | refine blk_alloc ?_ _)); refine blk_put (cs := #[.int .u64 t409, .int .i64 t410, .int .i64 t411, .int .u64 t412, .int .u64 t413, .int .i64 t414, .int .i64 0]) ?_ 6 _ rfl; (with_reducible repeat (first | refine blk_drewN ?_ _ | refine blk_drew ?_ | refine blk_alloc ?_ _)); refine blk_put (cs := #[.int .u64 t409, .int .i64 t410, .int .i64 t411, .int .u64 t412, .int .u64 t413, .int .i64 0, .int .i64 0]) ?_ 5 _ rfl; (with_reducible repeat (first | refine blk_drewN ?_ _ | refine blk_drew ?_ | refine blk_alloc ?_ _)); refine blk_put (cs := #[.int .u64 t409, .int .i64 t410, .int .i64 t411, .int .u64 t412, .int .u64 0, .int .i64 0, .int .i64 0]) ?_ 4 _ rfl; (with_reducible repeat (first | refine blk_drewN ?_ _ | refine blk_drew ?_ | refine blk_alloc ?_ _)); refine blk_put (cs := #[.int .u64 t409, .int .i64 t410, .int .i64 t411, .int .u64 0, .int .u64 0, .int .i64 0, .int .i64 0]) ?_ 3 _ rfl; (with_reducible repeat (first | refine blk_drewN ?_ _ | refine blk_drew ?_ | refine blk_alloc ?_ _)); refine blk_put (cs := #[.int .u64 t409, .int .i64 t410, .int .i64 0, .int .u64 0, .int .u64 0, .int .i64 0, .int .i64 0]) ?_ 2 _ rfl; (with_reducible repeat (first | refine blk_drewN ?_ _ | refine blk_drew ?_ | refine blk_alloc ?_ _)); refine blk_put (cs := #[.int .u64 t409, .int .i64 0, .int .i64 0, .int .u64 0, .int .u64 0, .int .i64 0, .int .i64 0]) ?_ 1 _ rfl; (with_reducible repeat (first | refine blk_drewN ?_ _ | refine blk_drew ?_ | refine blk_alloc ?_ _)); refine blk_put (cs := #[.int .u64 0, .int .i64 0, .int .i64 0, .int .u64 0, .int .u64 0, .int .i64 0, .int .i64 0]) ?_ 0 _ rfl; (with_reducible repeat (first | refine blk_drewN ?_ _ | refine blk_drew ?_ | refine blk_alloc ?_ _)); exact BK408.out) Try.underlying34 rfl (by kernel_rfl)) rfl ?_
            exact ⟨by first | rfl | (simp [errW_none, errW_some] <;> rfl) | (simp [*, errW_none, errW_some] <;> rfl), by repeat (first | (with_reducible first | exact HB.out | apply below_alloc | apply pw_below_drewN | apply below_drew1 | refine below_set ?_ GE408.out | refine below_set ?_ GE417.out | refine below_set ?_ GE426.out) | exact HB.out)⟩
        · rw [if_neg c21] at H
          have c21b0 : (t416 == 0) = false := beq_eq_false_iff_ne.mpr c21
          have c21b1 : (t416 != 0) = true := bne_iff_ne.mpr c21
          simp only [Option.some.injEq, Prod.mk.injEq] at H
          obtain ⟨rfl, rfl, rfl, rfl, rfl, rfl, rfl, rfl⟩ := H
          have hnb41 := NB426_408.out
          have hnc41 := NB408_426.out
          have hnb42 := NB426_417.out
          have hnc42 := NB417_426.out
          have hcz43_0 : wc.cell? ⟨gb426, 0, none⟩ = some (.int .u64 t418) := (blk_cell BK426.out 0).trans rfl
          have hcz43_1 : wc.cell? ⟨gb426, 1, none⟩ = some (.int .i64 t419) := (blk_cell BK426.out 1).trans rfl
          have hcz43_2 : wc.cell? ⟨gb426, 2, none⟩ = some (.int .i64 t420) := (blk_cell BK426.out 2).trans rfl
          have hcz43_3 : wc.cell? ⟨gb426, 3, none⟩ = some (.int .u64 t421) := (blk_cell BK426.out 3).trans rfl
          have hcz43_4 : wc.cell? ⟨gb426, 4, none⟩ = some (.int .u64 t422) := (blk_cell BK426.out 4).trans rfl
          have hcz43_5 : wc.cell? ⟨gb426, 5, none⟩ = some (.int .i64 t423) := (blk_cell BK426.out 5).trans rfl
          have hcz43_6 : wc.cell? ⟨gb426, 6, none⟩ = some (.int .i64 t424) := (blk_cell BK426.out 6).trans rfl
          have hfz43_0 := blk_frozen BK426.out 0
          have hfz43_1 := blk_frozen BK426.out 1
          have hfz43_2 := blk_frozen BK426.out 2
          have hfz43_3 := blk_frozen BK426.out 3
          have hfz43_4 := blk_frozen BK426.out 4
          have hfz43_5 := blk_frozen BK426.out 5
          have hfz43_6 := blk_frozen BK426.out 6
          have hnb44 := NB408_417.out
          have hnc44 := NB417_408.out
          have hcz45_0 : wc.cell? ⟨gb408, 0, none⟩ = some (.int .u64 0) := (blk_cell BK408.out 0).trans rfl
          have hcz45_1 : wc.cell? ⟨gb408, 1, none⟩ = some (.int .i64 0) := (blk_cell BK408.out 1).trans rfl
          have hcz45_2 : wc.cell? ⟨gb408, 2, none⟩ = some (.int .i64 0) := (blk_cell BK408.out 2).trans rfl
          have hcz45_3 : wc.cell? ⟨gb408, 3, none⟩ = some (.int .u64 0) := (blk_cell BK408.out 3).trans rfl
          have hcz45_4 : wc.cell? ⟨gb408, 4, none⟩ = some (.int .u64 0) := (blk_cell BK408.out 4).trans rfl
          have hcz45_5 : wc.cell? ⟨gb408, 5, none⟩ = some (.int .i64 0) := (blk_cell BK408.out 5).trans rfl
          have hcz45_6 : wc.cell? ⟨gb408, 6, none⟩ = some (.int .i64 0) := (blk_cell BK408.out 6).trans rfl
          have hfz45_0 := blk_frozen BK408.out 0
          have hfz45_1 := blk_frozen BK408.out 1
          have hfz45_2 := blk_frozen BK408.out 2
          have hfz45_3 := blk_frozen BK408.out 3
          have hfz45_4 := blk_frozen BK408.out 4
          have hfz45_5 := blk_frozen BK408.out 5
          have hfz45_6 := blk_frozen BK408.out 6
          go_wp2
          refine bodyPost_ret (results_ct rfl _ _ gb408 34 #[.int .u64 t418, .int .i64 t419, .int .i64 t420, .int .u64 t421, .int .u64 t422, .int .i64 t423, .int .i64 t424] (0, 0) _ rfl (by (with_reducible repeat (first | refine blk_drewN ?_ _ | refine blk_drew ?_ | refine blk_alloc ?_ _)); refine blk_put (cs := #[.int .u64 t418, .int .i64 t419, .int .i64 t420, .int .u64 t421, .int .u64 t422, .int .i64 t423, .int .i64 0]) ?_ 6 _ rfl; (with_reducible repeat (first | refine blk_drewN ?_ _ | refine blk_drew ?_ | refine blk_alloc ?_ _)); refine blk_put (cs := #[.int .u64 t418, .int .i64 t419, .int .i64 t420, .int .u64 t421, .int .u64 t422, .int .i64 0, .int .i64 0]) ?_ 5 _ rfl; (with_reducible repeat (first | refine blk_drewN ?_ _ | refine blk_drew ?_ | refine blk_alloc ?_ _)); refine blk_put (cs := #[.int .u64 t418, .int .i64 t419, .int .i64 t420, .int .u64 t421, .int .u64 0, .int .i64 0, .int .i64 0]) ?_ 4 _ rfl; (with_reducible repeat (first | refine blk_drewN ?_ _ | refine blk_drew ?_ | refine blk_alloc ?_ _)); refine blk_put (cs := #[.int .u64 t418, .int .i64 t419, .int .i64 t420, .int .u64 0, .int .u64 0, .int .i64 0, .int .i64 0]) ?_ 3 _ rfl; (with_reducible repeat (first | refine blk_drewN ?_ _ | refine blk_drew ?_ | refine blk_alloc ?_ _)); refine blk_put (cs := #[.int .u64 t418, .int .i64 t419, .int .i64 0, .int .u64 0, .int .u64 0, .int .i64 0, .int .i64 0]) ?_ 2 _ rfl; (with_reducible repeat (first | refine blk_drewN ?_ _ | refine blk_drew ?_ | refine blk_alloc ?_ _)); refine blk_put (cs := #[.int .u64 t418, .int .i64 0, .int .i64 0, .int .u64 0, .int .u64 0, .int .i64 0, .int .i64 0]) ?_ 1 _ rfl; (with_reducible repeat (first | refine blk_drewN ?_ _ | refine blk_drew ?_ | refine blk_alloc ?_ _)); refine blk_put (cs := #[.int .u64 0, .int .i64 0, .int .i64 0, .int .u64 0, .int .u64 0, .int .i64 0, .int .i64 0]) ?_ 0 _ rfl; (with_reducible repeat (first | refine blk_drewN ?_ _ | refine blk_drew ?_ | refine blk_alloc ?_ _)); exact BK408.out) Try.underlying34 rfl (by kernel_rfl)) rfl ?_
          exact ⟨by first | rfl | (simp [errW_none, errW_some] <;> rfl) | (simp [*, errW_none, errW_some] <;> rfl), by repeat (first | (with_reducible first | exact HB.out | apply below_alloc | apply pw_below_drewN | apply below_drew1 | refine below_set ?_ GE408.out | refine below_set ?_ GE417.out | refine below_set ?_ GE426.out) | exact HB.out)⟩

-- NOT PRINTED: function 6 (stooklaw16_RootBack)

end Go.Proofs.Ytkecgmoaojklbaa.PAll
