-- PRINTED by print.py (a twelfth state) out of the translation. Not trusted: Lean checks it.
import Derived.Test.YtjefgdggjchhbaaPAllx0
import Derived.Test.YtjefgdggjchhbaaPAllx6
import Derived.Test.YtjefgdggjchhbaaPAllx7
namespace Go.Proofs.Ytjefgdggjchhbaa.PAll
open Go.RowKit Go.Proofs.YtjefgdggjchhbaaVW.PrintWords Go.Proofs.YtjefgdggjchhbaaVW.PrintLast Go.Proofs.YtjefgdggjchhbaaVW.PrintMore
attribute [local go_sem] max2_int min2_int max_two min_two max_three min_three max_four min_four   -- for this text's walks alone
set_option linter.unusedVariables false
set_option linter.unusedSimpArgs false

abbrev b8q0 : Array Bool := #[false, false, false, false, false, false, false, false, false, false, false]
abbrev b8q1 : Array Bool := #[true, false, false, false, false, false, false, false, false, false, false]
abbrev b8q2 : Array Bool := #[true, true, false, false, false, false, false, false, false, false, false]
abbrev b8q3 : Array Bool := #[true, true, true, false, false, false, false, false, false, false, false]
abbrev b8q4 : Array Bool := #[true, true, true, false, false, true, false, false, false, false, false]
abbrev b8q5 : Array Bool := #[true, true, true, false, false, true, true, false, false, false, false]
abbrev b8q6 : Array Bool := #[true, true, true, false, false, true, true, true, false, false, false]
abbrev b8q7 : Array Bool := #[true, true, true, true, false, true, true, true, false, false, false]
abbrev b8q8 : Array Bool := #[true, true, true, true, true, true, true, true, false, false, false]
abbrev b8q9 : Array Bool := #[true, true, true, true, true, true, true, true, true, false, false]
abbrev b8q10 : Array Bool := #[true, true, true, true, true, true, true, true, true, true, false]
abbrev b8q11 : Array Bool := #[true, true, true, true, true, true, true, true, true, true, true]
/-! ### shard_Scan: function 16 -/
mutual
def shard_Scan.j0 : Nat → List Int → List Int → Int → Bool → Option (Int × List Int × Bool × Int × Int)
 | 0, _, _, _, _ => none
 | k + 1, x0, x4, x5, x30 => if x30 = true then (some (0, ([] : List Int), false, 0, 5)) else ((shard_number.f k x4).bind fun bt305 => (if bt305.2.2 = true then (if (bt305.2.1.length : Int) > 0 then (shard_Scan.j1 k x0 x5 bt305.1 true) else (shard_Scan.j1 k x0 x5 bt305.1 (decide (bt305.1 > 2147483647)))) else (shard_Scan.j1 k x0 x5 bt305.1 true)))
def shard_Scan.j1 : Nat → List Int → Int → Int → Bool → Option (Int × List Int × Bool × Int × Int)
 | 0, _, _, _, _ => none
 | k + 1, x0, x5, x6, x48 => if x48 = true then (some (0, ([] : List Int), false, 0, 5)) else (shard_Scan.l0 k x0 x5 (wrap64 (x6)) ([] : List Int) false x5)
def shard_Scan.l0 : Nat → List Int → Int → Int → List Int → Bool → Int → Option (Int × List Int × Bool × Int × Int)
 | 0, _, _, _, _, _, _ => none
 | k + 1, x0, x5, x299000, x299001, x299002, x299003 => (frame_Get.f k x0 x5).bind fun bt310 => (if bt310.2.2 = 0 then (shard_Scan.j3 k x0 x5 bt310.1 bt310.2.1 ((bt310.1.length : Int) == 0) x299000 x299001 x299002 x299003) else (shard_Scan.j3 k x0 x5 bt310.1 bt310.2.1 true x299000 x299001 x299002 x299003))
def shard_Scan.j3 : Nat → List Int → Int → List Int → Int → Bool → Int → List Int → Bool → Int → Option (Int × List Int × Bool × Int × Int)
 | 0, _, _, _, _, _, _, _, _, _ => none
 | k + 1, x0, x5, x9, x10, x67, x299000, x299001, x299002, x299003 => if x67 = true then (some (x299000, x299001, x299002, x299003, 0)) else (if 0 < (x9.length : Int) then (if (rd x9 0) = 114 then (if x299001.length < 17592186044416 then (shard_Scan.l0 k x0 x10 x299000 (x299001 ++ [x5]) x299002 x10) else (none)) else (if (rd x9 0) = 102 then (if 0 ≤ x5 then (if x5 ≤ (x0.length : Int) then ((shard_foot.f k (x299001.length : Int) (x0.take (x5 : Int).toNat)).bind fun t320 => (if (strOfNums x9).toList = (strOfNums t320).toList then (some (x299000, x299001, true, x10, 0)) else (some (x299000, x299001, x299002, x299003, 0)))) else (none)) else (none)) else (some (x299000, x299001, x299002, x299003, 0)))) else (none))
end
def shard_Scan.f (k : Nat) (l0 : List Int) : Option (Int × List Int × Bool × Int × Int) := (frame_Get.f k l0 0).bind fun bt299 => (if bt299.2.2 = 0 then (if (bt299.1.length : Int) = 0 then (shard_Scan.j0 k l0 bt299.1 bt299.2.1 true) else (if 0 < (bt299.1.length : Int) then (shard_Scan.j0 k l0 bt299.1 bt299.2.1 ((rd bt299.1 0) != 104)) else (none))) else (shard_Scan.j0 k l0 bt299.1 bt299.2.1 true))
theorem shard_Scan.mono_l : ∀ k, (∀ y0 y1 y2 y3, LeO (shard_Scan.j0 k y0 y1 y2 y3) (shard_Scan.j0 (k + 1) y0 y1 y2 y3)) ∧ (∀ y0 y1 y2 y3, LeO (shard_Scan.j1 k y0 y1 y2 y3) (shard_Scan.j1 (k + 1) y0 y1 y2 y3)) ∧ (∀ y0 y1 y2 y3 y4 y5, LeO (shard_Scan.l0 k y0 y1 y2 y3 y4 y5) (shard_Scan.l0 (k + 1) y0 y1 y2 y3 y4 y5)) ∧ (∀ y0 y1 y2 y3 y4 y5 y6 y7 y8, LeO (shard_Scan.j3 k y0 y1 y2 y3 y4 y5 y6 y7 y8) (shard_Scan.j3 (k + 1) y0 y1 y2 y3 y4 y5 y6 y7 y8))
 | 0 => ⟨fun _ _ _ _ r h => by simp [shard_Scan.j0] at h, fun _ _ _ _ r h => by simp [shard_Scan.j1] at h, fun _ _ _ _ _ _ r h => by simp [shard_Scan.l0] at h, fun _ _ _ _ _ _ _ _ _ r h => by simp [shard_Scan.j3] at h⟩
 | k + 1 => by
  obtain ⟨ih0, ih1, ih2, ih3⟩ := shard_Scan.mono_l k
  refine ⟨?_, ?_, ?_, ?_⟩
  ·
   intro y0 y1 y2 y3
   unfold shard_Scan.j0
   repeat' first
   | (with_reducible exact ih0 _ _ _ _)
   | (with_reducible exact ih1 _ _ _ _)
   | (with_reducible exact ih2 _ _ _ _ _ _)
   | (with_reducible exact ih3 _ _ _ _ _ _ _ _ _)
   | (with_reducible exact frame_Get.mono _ _ _)
   | (with_reducible exact shard_foot.mono _ _ _)
   | (with_reducible exact shard_number.mono _ _)
   | (with_reducible exact LeO.refl _)
   | (with_reducible exact LeO.none _)
   | (with_reducible refine LeO.ite ?_ ?_)
   | (with_reducible refine LeO.bind ?_ (fun _ => ?_))
   | exact ih0 _ _ _ _
   | exact ih1 _ _ _ _
   | exact ih2 _ _ _ _ _ _
   | exact ih3 _ _ _ _ _ _ _ _ _
   | exact frame_Get.mono _ _ _
   | exact shard_foot.mono _ _ _
   | exact shard_number.mono _ _
   | exact LeO.none _
   | refine LeO.ite ?_ ?_
   | refine LeO.bind ?_ (fun _ => ?_)
  ·
   intro y0 y1 y2 y3
   unfold shard_Scan.j1
   repeat' first
   | (with_reducible exact ih0 _ _ _ _)
   | (with_reducible exact ih1 _ _ _ _)
   | (with_reducible exact ih2 _ _ _ _ _ _)
   | (with_reducible exact ih3 _ _ _ _ _ _ _ _ _)
   | (with_reducible exact frame_Get.mono _ _ _)
   | (with_reducible exact shard_foot.mono _ _ _)
   | (with_reducible exact shard_number.mono _ _)
   | (with_reducible exact LeO.refl _)
   | (with_reducible exact LeO.none _)
   | (with_reducible refine LeO.ite ?_ ?_)
   | (with_reducible refine LeO.bind ?_ (fun _ => ?_))
   | exact ih0 _ _ _ _
   | exact ih1 _ _ _ _
   | exact ih2 _ _ _ _ _ _
   | exact ih3 _ _ _ _ _ _ _ _ _
   | exact frame_Get.mono _ _ _
   | exact shard_foot.mono _ _ _
   | exact shard_number.mono _ _
   | exact LeO.none _
   | refine LeO.ite ?_ ?_
   | refine LeO.bind ?_ (fun _ => ?_)
  ·
   intro y0 y1 y2 y3 y4 y5
   unfold shard_Scan.l0
   repeat' first
   | (with_reducible exact ih0 _ _ _ _)
   | (with_reducible exact ih1 _ _ _ _)
   | (with_reducible exact ih2 _ _ _ _ _ _)
   | (with_reducible exact ih3 _ _ _ _ _ _ _ _ _)
   | (with_reducible exact frame_Get.mono _ _ _)
   | (with_reducible exact shard_foot.mono _ _ _)
   | (with_reducible exact shard_number.mono _ _)
   | (with_reducible exact LeO.refl _)
   | (with_reducible exact LeO.none _)
   | (with_reducible refine LeO.ite ?_ ?_)
   | (with_reducible refine LeO.bind ?_ (fun _ => ?_))
   | exact ih0 _ _ _ _
   | exact ih1 _ _ _ _
   | exact ih2 _ _ _ _ _ _
   | exact ih3 _ _ _ _ _ _ _ _ _
   | exact frame_Get.mono _ _ _
   | exact shard_foot.mono _ _ _
   | exact shard_number.mono _ _
   | exact LeO.none _
   | refine LeO.ite ?_ ?_
   | refine LeO.bind ?_ (fun _ => ?_)
  ·
   intro y0 y1 y2 y3 y4 y5 y6 y7 y8
   unfold shard_Scan.j3
   repeat' first
   | (with_reducible exact ih0 _ _ _ _)
   | (with_reducible exact ih1 _ _ _ _)
   | (with_reducible exact ih2 _ _ _ _ _ _)
   | (with_reducible exact ih3 _ _ _ _ _ _ _ _ _)
   | (with_reducible exact frame_Get.mono _ _ _)
   | (with_reducible exact shard_foot.mono _ _ _)
   | (with_reducible exact shard_number.mono _ _)
   | (with_reducible exact LeO.refl _)
   | (with_reducible exact LeO.none _)
   | (with_reducible refine LeO.ite ?_ ?_)
   | (with_reducible refine LeO.bind ?_ (fun _ => ?_))
   | exact ih0 _ _ _ _
   | exact ih1 _ _ _ _
   | exact ih2 _ _ _ _ _ _
   | exact ih3 _ _ _ _ _ _ _ _ _
   | exact frame_Get.mono _ _ _
   | exact shard_foot.mono _ _ _
   | exact shard_number.mono _ _
   | exact LeO.none _
   | refine LeO.ite ?_ ?_
   | refine LeO.bind ?_ (fun _ => ?_)
theorem shard_Scan.mono : ∀ a0 k, LeO (shard_Scan.f k a0) (shard_Scan.f (k + 1) a0) := by
 intro a0 k
 obtain ⟨ih0, ih1, ih2, ih3⟩ := shard_Scan.mono_l k
 unfold shard_Scan.f
 repeat' first
   | (with_reducible exact ih0 _ _ _ _)
   | (with_reducible exact ih1 _ _ _ _)
   | (with_reducible exact ih2 _ _ _ _ _ _)
   | (with_reducible exact ih3 _ _ _ _ _ _ _ _ _)
   | (with_reducible exact frame_Get.mono _ _ _)
   | (with_reducible exact shard_foot.mono _ _ _)
   | (with_reducible exact shard_number.mono _ _)
   | (with_reducible exact LeO.refl _)
   | (with_reducible exact LeO.none _)
   | (with_reducible refine LeO.ite ?_ ?_)
   | (with_reducible refine LeO.bind ?_ (fun _ => ?_))
   | exact ih0 _ _ _ _
   | exact ih1 _ _ _ _
   | exact ih2 _ _ _ _ _ _
   | exact ih3 _ _ _ _ _ _ _ _ _
   | exact frame_Get.mono _ _ _
   | exact shard_foot.mono _ _ _
   | exact shard_number.mono _ _
   | exact LeO.none _
   | refine LeO.ite ?_ ?_
   | refine LeO.bind ?_ (fun _ => ?_)
def shard_Scan.T15 : Bool × List (List Nat × List Nat) := (true, [([], []), ([0], [0]), ([], []), ([2], [2]), ([3], [3]), ([], []), ([], []), ([5, 6], [5, 6]), ([4, 7], [4, 7]), ([8], [8]), ([1, 9], [1, 9])])
def shard_Scan.B15 : List Nat := [0, 1, 0, 4, 12, 0, 0, 96, 252, 508, 1023]
theorem shard_Scan.tab15 : rtab .any (opsOf Try.f16 15) = shard_Scan.T15 := by kernel_rfl
theorem shard_Scan.bits15 : waitsOk shard_Scan.T15.2 shard_Scan.B15 = true := by kernel_rfl
set_option maxHeartbeats 8000000 in
set_option maxRecDepth 100000 in
theorem shard_Scan.calls (k : Nat) (A0 : Option Addr) (c0 : Nat) (l0 : List Int) (r1 : Int) (r2 : List Int) (r3 : Bool) (r4 : Int) (r5 : Int) (w : World) (hr0 : Kd.C (Kd.int .u8) w A0 l0.length l0) (hc0 : l0.length ≤ c0) (h : shard_Scan.f k l0 = some (r1, r2, r3, r4, r5)) :
  Calls Try.prog 16 #[.slice A0 l0.length c0] w fun e w' => ∃ v1_ : Value, e = .returned (.tuple #[.agg #[.int .i64 r1, v1_, .bool r3, .int .i64 r4], .int .i64 r5]) ∧ Kd.R (Kd.int .i64) 3 w' w.heap.size (fun _ => True) v1_ r2 ∧ Below w.heap.size w w' := by
 have hu33 := Try.underlying33
 have HR0 := Aside0.mk hr0
 have HC0 := Aside0.mk hc0
 clear hr0 hc0
 have HB := Aside0.mk (Below.refl w.heap.size w)
 have H : ((frame_Get.f k l0 0).bind fun bt299 => (if bt299.2.2 = 0 then (if (bt299.1.length : Int) = 0 then (shard_Scan.j0 k l0 bt299.1 bt299.2.1 true) else (if 0 < (bt299.1.length : Int) then (shard_Scan.j0 k l0 bt299.1 bt299.2.1 ((rd bt299.1 0) != 104)) else (none))) else (shard_Scan.j0 k l0 bt299.1 bt299.2.1 true))) = some (r1, r2, r3, r4, r5) := h
 clear h
 replace H := Option.bind_eq_some_iff.mp H
 obtain ⟨⟨t299, t300, t301⟩, A20, H⟩ := H
 replace H : (if t301 = 0 then (if (t299.length : Int) = 0 then (shard_Scan.j0 k l0 t299 t300 true) else (if 0 < (t299.length : Int) then (shard_Scan.j0 k l0 t299 t300 ((rd t299 0) != 104)) else (none))) else (shard_Scan.j0 k l0 t299 t300 true)) = some (r1, r2, r3, r4, r5) := H
 have A2 := Aside0.mk A20
 clear A20
 have HC3 := Aside0.mk H
 clear H
 go_enter Try.func16, Try.ntmps16
 go_wp2_with (first | ((with_reducible refine gate_dst (N := 2) rfl ?_); (try (refine gate_guard (by rfl) ?_; dsimp only)); refine box_event ?hg (N := 2) ?hd (cs := #[.int .i64 0, .slice none 0 0, .bool false, .int .i64 0]) (t := 33) ?hr ?_; (case hd => rfl); (case hg => rfl); (case hr => first | (go_simp; done) | (go_simp; rfl)); intro gb298 hg w4 hbox hb; have n0_ := Aside0.mk (below_step (by repeat (first | (with_reducible first | exact HB.out | apply below_alloc | apply pw_below_drewN | apply below_drew1) | exact HB.out)) hb); have n1_ := Aside0.mk (hbox); have n2_ := Aside0.mk ((by rw [hg]; exact (below_size (by repeat (first | (with_reducible first | exact HB.out | apply below_alloc | apply pw_below_drewN | apply below_drew1) | exact HB.out))) : w.heap.size ≤ gb298)); have n3_ := Aside0.mk ((by rw [hg]; exact (below_size (by repeat (first | (with_reducible first | exact HB.out | apply below_alloc | apply pw_below_drewN | apply below_drew1) | exact HB.out))) : w.heap.size ≤ gb298)); clear HB; have HB := n0_; have BK298 := n1_; have GW298 := n2_; have GE298 := n3_; clear n0_ n1_ n2_ n3_; clear hb hbox hg))
 go_step3
 go_upto_region 2 with (first | ((with_reducible refine gate_dst (N := 2) rfl ?_); (try (refine gate_guard (by rfl) ?_; dsimp only)); refine box_event ?hg (N := 2) ?hd (cs := #[.int .i64 0, .slice none 0 0, .bool false, .int .i64 0]) (t := 33) ?hr ?_; (case hd => rfl); (case hg => rfl); (case hr => first | (go_simp; done) | (go_simp; rfl)); intro gb298 hg w4 hbox hb; have n0_ := Aside0.mk (below_step (by repeat (first | (with_reducible first | exact HB.out | apply below_alloc | apply pw_below_drewN | apply below_drew1) | exact HB.out)) hb); have n1_ := Aside0.mk (hbox); have n2_ := Aside0.mk ((by rw [hg]; exact (below_size (by repeat (first | (with_reducible first | exact HB.out | apply below_alloc | apply pw_below_drewN | apply below_drew1) | exact HB.out))) : w.heap.size ≤ gb298)); have n3_ := Aside0.mk ((by rw [hg]; exact (below_size (by repeat (first | (with_reducible first | exact HB.out | apply below_alloc | apply pw_below_drewN | apply below_drew1) | exact HB.out))) : w.heap.size ≤ gb298)); clear HB; have HB := n0_; have BK298 := n1_; have GW298 := n2_; have GE298 := n3_; clear n0_ n1_ n2_ n3_; clear hb hbox hg) | ((with_reducible refine gate_callee (f := 37) rfl ?_); refine goesL_ (some 14) rfl rfl Try.func37 (by kernel_rfl) rfl #[.slice A0 l0.length c0, .int .i64 0] rfl (by (try simp only [List.map_toArray, List.map_cons, List.map_nil]); first | done | rfl | (simp only [List.length_drop, List.length_take]; rfl)) ?_; (with_reducible refine (frame_Get.calls k _ _ l0 0 t299 t300 t301 _ ?side1 ?side2 A2.out).mono ?_); (case side1 => repeat (first | exact (Kd.C_below HR0.out HB.out) | (with_reducible refine Kd.C_alloc ?_ _) | (with_reducible refine Kd.C_drewN ?_ _) | (with_reducible refine Kd.C_drew ?_))); (case side2 => exact HC0.out); rintro e w5 ⟨v302, rfl, ho0, hb⟩; refine ⟨_, rfl, ?_⟩; have n0_ := Aside0.mk (Kd.R_lower ho0 (below_size (by repeat (first | (with_reducible first | exact HB.out | apply below_alloc | apply pw_below_drewN | apply below_drew1 | refine below_set ?_ GE298.out) | exact HB.out)))); have n1_ := Aside0.mk (blk_below (g := gb298) (o := .cells #[.int .i64 0, .slice none 0 0, .bool false, .int .i64 0] 33 (0, 0)) (by (with_reducible repeat (first | refine blk_drewN ?_ _ | refine blk_drew ?_ | refine blk_alloc ?_ _)); exact BK298.out) hb); have n2_ := Aside0.mk (below_step (by repeat (first | (with_reducible first | exact HB.out | apply below_alloc | apply pw_below_drewN | apply below_drew1 | refine below_set ?_ GE298.out) | exact HB.out)) hb); clear BK298; clear HB; have HO303 := n0_; have BK298 := n1_; have HB := n2_; clear n0_ n1_ n2_; (try clear hb); (try clear hb2); (try clear hk); (try clear hi); (try clear ho0)))
 (try simp only [Act.put, List.setIfInBounds_toArray, List.set_cons_zero, List.set_cons_succ])
 go_cut [30] (fun v30 wc => ∃ (kq : Nat) (x30_2 : Bool), v30 = .bool x30_2 ∧ Aside0 (shard_Scan.j0 kq l0 t299 t300 x30_2 = some (r1, r2, r3, r4, r5)) ∧ Aside0 (kq ≤ k) ∧ Aside0 (Kd.R (Kd.int .u8) 5 wc w.heap.size (fun _ => True) v302 t299) ∧ Aside0 (wc.heap[gb298]? = some (.cells #[.int .i64 0, (.slice none 0 0), .bool false, .int .i64 0] 33 (0, 0))) ∧ Aside0 (Below w.heap.size w wc))
 case first =>
  have H := HC3.out
  clear HC3
  by_cases c6 : t301 = 0
  ·
   rw [if_pos c6] at H
   have c6b0 : (t301 == 0) = true := beq_iff_eq.mpr c6
   have c6b1 : (t301 != 0) = false := bne_eq_false_iff_eq.mpr c6
   clear c6
   (first | rw [c6b0] | (simp only [i64_w, i32_w]; rw [c6b0]) | skip)
   by_cases c7 : (t299.length : Int) = 0
   ·
    rw [if_pos c7] at H
    have c7b0 : ((t299.length : Int) == 0) = true := beq_iff_eq.mpr c7
    have c7b1 : ((t299.length : Int) != 0) = false := bne_eq_false_iff_eq.mpr c7
    clear c7
    have H' := Aside0.mk H
    clear H
    obtain ⟨Ao8, co8, eo8⟩ := Kd.R_slice HO303.out
    subst eo8
    go_wp2
    try (go_step3; (try go_wp2))
    try simp only [Exit.noGoto_ret]
    go_meet
    case rel => exact ⟨_, (true), (by first | rfl | (simp; done) | (simp [*]; done)), H', ⟨by first | omega | exact Nat.le_refl _⟩, ⟨by (with_reducible repeat (first | apply Kd.R_alloc | apply Kd.R_drewN | apply Kd.R_drew)); exact HO303.out⟩, ⟨by (with_reducible repeat (first | refine blk_drewN ?_ _ | refine blk_drew ?_ | refine blk_alloc ?_ _)); exact BK298.out⟩, ⟨by repeat (first | (with_reducible first | exact HB.out | apply below_alloc | apply pw_below_drewN | apply below_drew1 | refine below_set ?_ GE298.out) | exact HB.out)⟩⟩
   ·
    rw [if_neg c7] at H
    have c7b0 : ((t299.length : Int) == 0) = false := beq_eq_false_iff_ne.mpr c7
    have c7b1 : ((t299.length : Int) != 0) = true := bne_iff_ne.mpr c7
    have c7b2 : ¬ (t299 = []) := fun h_ => c7 (by rw [h_]; rfl)
    by_cases c9 : 0 < (t299.length : Int)
    ·
     rw [if_pos c9] at H
     have c9b0 : decide (0 < (t299.length : Int)) = true := decide_eq_true c9
     have c9b1 : decide (0 < t299.length) = true := decide_eq_true (by omega)
     clear c9
     have H' := Aside0.mk H
     clear H
     obtain ⟨Ao10, co10, eo10⟩ := Kd.R_slice HO303.out
     subst eo10
     have p304 : 0 ≤ (0 : Int) := (by omega)
     have q304 : 0 < (t299.length : Int) := of_decide_eq_true (by first | (with_reducible assumption) | assumption)
     obtain ⟨ad304, e304, hx304_0⟩ := Kd.at_int (Kd.R_reads' HO303.out).2.2 0 p304 q304
     cases e304
     have qi304 : (0 < t299.length) = True := eq_true (by omega)
     (try rw [show ((0 : Int)).toNat = 0 from rfl] at hx304_0)
     (try rw [Addr.add_zero'] at hx304_0)
     replace p304 := eq_true p304
     replace q304 := eq_true q304
     go_wp2
     try (go_step3; (try go_wp2))
     try simp only [Exit.noGoto_ret]
     go_meet
     case rel => exact ⟨_, (((rd t299 0) != 104)), (by first | rfl | (simp; done) | (simp [*]; done)), H', ⟨by first | omega | exact Nat.le_refl _⟩, ⟨by (with_reducible repeat (first | apply Kd.R_alloc | apply Kd.R_drewN | apply Kd.R_drew)); exact HO303.out⟩, ⟨by (with_reducible repeat (first | refine blk_drewN ?_ _ | refine blk_drew ?_ | refine blk_alloc ?_ _)); exact BK298.out⟩, ⟨by repeat (first | (with_reducible first | exact HB.out | apply below_alloc | apply pw_below_drewN | apply below_drew1 | refine below_set ?_ GE298.out) | exact HB.out)⟩⟩
    ·
     rw [if_neg c9] at H
     exact absurd H (by simp)
  ·
   rw [if_neg c6] at H
   have c6b0 : (t301 == 0) = false := beq_eq_false_iff_ne.mpr c6
   have c6b1 : (t301 != 0) = true := bne_iff_ne.mpr c6
   (first | rw [c6b0] | (simp only [i64_w, i32_w]; rw [c6b0]) | skip)
   have H' := Aside0.mk H
   clear H
   go_wp2
   try (go_step3; (try go_wp2))
   try simp only [Exit.noGoto_ret]
   go_meet
   case rel => exact ⟨_, (true), (by first | rfl | (simp; done) | (simp [*]; done)), H', ⟨by first | omega | exact Nat.le_refl _⟩, ⟨by (with_reducible repeat (first | apply Kd.R_alloc | apply Kd.R_drewN | apply Kd.R_drew)); exact HO303.out⟩, ⟨by (with_reducible repeat (first | refine blk_drewN ?_ _ | refine blk_drew ?_ | refine blk_alloc ?_ _)); exact BK298.out⟩, ⟨by repeat (first | (with_reducible first | exact HB.out | apply below_alloc | apply pw_below_drewN | apply below_drew1 | refine below_set ?_ GE298.out) | exact HB.out)⟩⟩
 case rest =>
  clear HC3
  try clear c1
  try clear p2
  try clear c3
  try clear p3
  try clear q3
  try clear hx3
  try clear qi3
  try clear c6
  try clear c6b0
  try clear c6b1
  try clear c7
  try clear c7b0
  try clear c7b1
  try clear c7b2
  try clear c9
  try clear c9b0
  try clear c9b1
  try clear hx304_0
  try clear p304
  try clear q304
  obtain ⟨kq, x30_2, rfl, HA, HJ2, HO_4, BK298, HB⟩ := hcut
  cases kq with
  | zero => exact absurd HA.out (by simp [shard_Scan.j0])
  | succ kj2 =>
   have H := HA.out
   clear HA
   simp only [shard_Scan.j0] at H
   by_cases c11 : x30_2 = true
   ·
    subst c11
    have H1 : (some (0, ([] : List Int), false, 0, 5)) = some (r1, r2, r3, r4, r5) := by rw [if_pos rfl] at H; exact H
    clear H
    have H := H1
    clear H1
    simp only [Option.some.injEq, Prod.mk.injEq] at H
    obtain ⟨rfl, rfl, rfl, rfl, rfl⟩ := H
    have hcz12_0 : wc.cell? ⟨gb298, 0, none⟩ = some (.int .i64 0) := (blk_cell BK298.out 0).trans rfl
    have hcz12_1 : wc.cell? ⟨gb298, 1, none⟩ = some (.slice none 0 0) := (blk_cell BK298.out 1).trans rfl
    have hcz12_2 : wc.cell? ⟨gb298, 2, none⟩ = some (.bool false) := (blk_cell BK298.out 2).trans rfl
    have hcz12_3 : wc.cell? ⟨gb298, 3, none⟩ = some (.int .i64 0) := (blk_cell BK298.out 3).trans rfl
    have hfz12_0 := blk_frozen BK298.out 0
    have hfz12_1 := blk_frozen BK298.out 1
    have hfz12_2 := blk_frozen BK298.out 2
    have hfz12_3 := blk_frozen BK298.out 3
    go_wp2
    try (go_step3; (try go_wp2))
    try simp only [Exit.noGoto_ret]
    refine bodyPost_ret (results_ct rfl _ _ gb298 33 #[.int .i64 0, .slice none 0 0, .bool false, .int .i64 0] (0, 0) _ rfl (by (with_reducible repeat (first | refine blk_drewN ?_ _ | refine blk_drew ?_ | refine blk_alloc ?_ _)); refine blk_put (cs := #[.int .i64 0, .slice none 0 0, .bool false, .int .i64 0]) ?_ 3 _ rfl; (with_reducible repeat (first | refine blk_drewN ?_ _ | refine blk_drew ?_ | refine blk_alloc ?_ _)); refine blk_put (cs := #[.int .i64 0, .slice none 0 0, .bool false, .int .i64 0]) ?_ 2 _ rfl; (with_reducible repeat (first | refine blk_drewN ?_ _ | refine blk_drew ?_ | refine blk_alloc ?_ _)); refine blk_put (cs := #[.int .i64 0, .slice none 0 0, .bool false, .int .i64 0]) ?_ 1 _ rfl; (with_reducible repeat (first | refine blk_drewN ?_ _ | refine blk_drew ?_ | refine blk_alloc ?_ _)); refine blk_put (cs := #[.int .i64 0, .slice none 0 0, .bool false, .int .i64 0]) ?_ 0 _ rfl; (with_reducible repeat (first | refine blk_drewN ?_ _ | refine blk_drew ?_ | refine blk_alloc ?_ _)); exact BK298.out) Try.underlying33 rfl (by kernel_rfl)) rfl ?_
    exact ⟨_, by first | rfl | (simp [errW_none, errW_some] <;> rfl) | (simp [*, errW_none, errW_some] <;> rfl), by first | exact Kd.R_nil _ _ _ _ _ | exact Kd.N_nil _ _ _ _ _ | exact Kd.V_nil _ _ _ _ _ | exact Kd.Q_nil _ _ _ _ _ | exact Kd.S_nil _ _ _ _ _, by repeat (first | (with_reducible first | exact HB.out | apply below_alloc | apply pw_below_drewN | apply below_drew1 | refine below_set ?_ GE298.out) | exact HB.out)⟩
   ·
    replace c11 := Bool.eq_false_iff.mpr c11
    subst c11
    have H1 : ((shard_number.f kj2 t299).bind fun bt305 => (if bt305.2.2 = true then (if (bt305.2.1.length : Int) > 0 then (shard_Scan.j1 kj2 l0 t300 bt305.1 true) else (shard_Scan.j1 kj2 l0 t300 bt305.1 (decide (bt305.1 > 2147483647)))) else (shard_Scan.j1 kj2 l0 t300 bt305.1 true))) = some (r1, r2, r3, r4, r5) := by rw [if_neg (show ¬ (false = true) by decide)] at H; exact H
    clear H
    have H := H1
    clear H1
    replace H := Option.bind_eq_some_iff.mp H
    obtain ⟨⟨t305, t306, t309⟩, A130, H⟩ := H
    replace H : (if t309 = true then (if (t306.length : Int) > 0 then (shard_Scan.j1 kj2 l0 t300 t305 true) else (shard_Scan.j1 kj2 l0 t300 t305 (decide (t305 > 2147483647)))) else (shard_Scan.j1 kj2 l0 t300 t305 true)) = some (r1, r2, r3, r4, r5) := H
    have A13 := Aside0.mk A130
    clear A130
    have HC14 := Aside0.mk H
    clear H
    obtain ⟨Ao15, co15, eo15⟩ := Kd.R_slice HO_4.out
    subst eo15
    go_upto_region 5 with (first | ((with_reducible refine gate_callee (f := 38) rfl ?_); refine goesL_ (some 34) rfl rfl Try.func38 (by kernel_rfl) rfl #[.slice Ao15 t299.length co15] rfl (by (try simp only [List.map_toArray, List.map_cons, List.map_nil]); first | done | rfl | (simp only [List.length_drop, List.length_take]; rfl)) ?_; (with_reducible refine (shard_number.calls kj2 (fun k_ => some k_ = (.slice Ao15 t299.length co15 : Value).ownBlock) (.slice Ao15 t299.length co15) t299 t305 t306 t309 w _ ?side1 ?side2 A13.out).mono ?_); (case side1 => repeat (first | (with_reducible first | exact HB.out | apply below_alloc | apply pw_below_drewN | apply below_drew1 | refine below_set ?_ GE298.out) | exact HB.out)); (case side2 => exact Kd.R_tight rfl HO_4.out); rintro e w16 ⟨v307, rfl, ho0, hb, hkp⟩; refine ⟨_, rfl, ?_⟩; have n0_ := Aside0.mk (blk_kept (by (with_reducible repeat (first | refine blk_drewN ?_ _ | refine blk_drew ?_ | refine blk_alloc ?_ _)); exact BK298.out) hkp (fun hs_ => (fun e_ => (Kd.R_ne HO_4.out BK298.out (by decide)) e_) hs_)); have n1_ := Aside0.mk (Kd.Q_mono (ok' := fun k_ => True) ho0 (fun k_ hk_ => trivial)); have n2_ := Aside0.mk (hb); clear BK298; clear HB; clear HO_4; have BK298 := n0_; have HO308 := n1_; have HB := n2_; clear n0_ n1_ n2_; (try clear hb); (try clear hkp); (try clear ho0)))
    (try simp only [Act.put, List.setIfInBounds_toArray, List.set_cons_zero, List.set_cons_succ])
    go_cut [48] (fun v48 wc => ∃ (kq : Nat) (x48_13 : Bool), v48 = .bool x48_13 ∧ Aside0 (shard_Scan.j1 kq l0 t300 t305 x48_13 = some (r1, r2, r3, r4, r5)) ∧ Aside0 (kq ≤ kj2) ∧ Aside0 (wc.heap[gb298]? = some (.cells #[.int .i64 0, (.slice none 0 0), .bool false, .int .i64 0] 33 (0, 0))) ∧ Aside0 (Below w.heap.size w wc))
    case first =>
     have H := HC14.out
     clear HC14
     by_cases c17 : t309 = true
     ·
      subst c17
      have H1 : (if (t306.length : Int) > 0 then (shard_Scan.j1 kj2 l0 t300 t305 true) else (shard_Scan.j1 kj2 l0 t300 t305 (decide (t305 > 2147483647)))) = some (r1, r2, r3, r4, r5) := by rw [if_pos rfl] at H; exact H
      clear H
      have H := H1
      clear H1
      by_cases c18 : (t306.length : Int) > 0
      ·
       rw [if_pos c18] at H
       have c18b0 : decide (0 < (t306.length : Int)) = true := decide_eq_true c18
       have c18b1 : decide (0 < t306.length) = true := decide_eq_true (by omega)
       clear c18
       (first | rw [c18b0] | (simp only [i64_w, i32_w]; rw [c18b0]) | skip)
       have H' := Aside0.mk H
       clear H
       obtain ⟨Ao19, co19, eo19, _⟩ := Kd.Q_slice HO308.out
       subst eo19
       go_wp2
       try (go_step3; (try go_wp2))
       try simp only [Exit.noGoto_ret]
       go_meet
       case rel => exact ⟨_, (true), (by first | rfl | (simp; done) | (simp [*]; done)), H', ⟨by have := HJ2.out; first | omega | exact Nat.le_refl _⟩, ⟨by (with_reducible repeat (first | refine blk_drewN ?_ _ | refine blk_drew ?_ | refine blk_alloc ?_ _)); exact BK298.out⟩, ⟨by repeat (first | (with_reducible first | exact HB.out | apply below_alloc | apply pw_below_drewN | apply below_drew1 | refine below_set ?_ GE298.out) | exact HB.out)⟩⟩
      ·
       rw [if_neg c18] at H
       have c18b0 : decide (0 < (t306.length : Int)) = false := decide_eq_false c18
       have c18b1 : decide (0 < t306.length) = false := decide_eq_false (by omega)
       clear c18
       (first | rw [c18b0] | (simp only [i64_w, i32_w]; rw [c18b0]) | skip)
       have H' := Aside0.mk H
       clear H
       obtain ⟨Ao20, co20, eo20, _⟩ := Kd.Q_slice HO308.out
       subst eo20
       go_wp2
       try (go_step3; (try go_wp2))
       try simp only [Exit.noGoto_ret]
       go_meet
       case rel => exact ⟨_, (decide (t305 > 2147483647)), (by first | rfl | (simp; done) | (simp [*]; done)), H', ⟨by have := HJ2.out; first | omega | exact Nat.le_refl _⟩, ⟨by (with_reducible repeat (first | refine blk_drewN ?_ _ | refine blk_drew ?_ | refine blk_alloc ?_ _)); exact BK298.out⟩, ⟨by repeat (first | (with_reducible first | exact HB.out | apply below_alloc | apply pw_below_drewN | apply below_drew1 | refine below_set ?_ GE298.out) | exact HB.out)⟩⟩
     ·
      replace c17 := Bool.eq_false_iff.mpr c17
      subst c17
      have H1 : (shard_Scan.j1 kj2 l0 t300 t305 true) = some (r1, r2, r3, r4, r5) := by rw [if_neg (show ¬ (false = true) by decide)] at H; exact H
      clear H
      have H := H1
      clear H1
      have H' := Aside0.mk H
      clear H
      go_wp2
      try (go_step3; (try go_wp2))
      try simp only [Exit.noGoto_ret]
      go_meet
      case rel => exact ⟨_, (true), (by first | rfl | (simp; done) | (simp [*]; done)), H', ⟨by have := HJ2.out; first | omega | exact Nat.le_refl _⟩, ⟨by (with_reducible repeat (first | refine blk_drewN ?_ _ | refine blk_drew ?_ | refine blk_alloc ?_ _)); exact BK298.out⟩, ⟨by repeat (first | (with_reducible first | exact HB.out | apply below_alloc | apply pw_below_drewN | apply below_drew1 | refine below_set ?_ GE298.out) | exact HB.out)⟩⟩
    case rest =>
     clear HC14
     try clear c1
     try clear p2
     try clear c3
     try clear p3
     try clear q3
     try clear hx3
     try clear qi3
     try clear c6
     try clear c6b0
     try clear c6b1
     try clear c7
     try clear c7b0
     try clear c7b1
     try clear c7b2
     try clear c9
     try clear c9b0
     try clear c9b1
     try clear c11
     try clear c16
     try clear c17
     try clear c18
     try clear c18b0
     try clear c18b1
     try clear hcz12_0
     try clear hcz12_1
     try clear hcz12_2
     try clear hcz12_3
     try clear hfz12_0
     try clear hfz12_1
     try clear hfz12_2
     try clear hfz12_3
     try clear hx304_0
     try clear p2
     try clear p3
     try clear p304
     try clear q3
     try clear q304
     obtain ⟨kq, x48_13, rfl, HA, HJ13, BK298, HB⟩ := hcut
     cases kq with
     | zero => exact absurd HA.out (by simp [shard_Scan.j1])
     | succ kj13 =>
      have H := HA.out
      clear HA
      simp only [shard_Scan.j1] at H
      by_cases c21 : x48_13 = true
      ·
       subst c21
       have H1 : (some (0, ([] : List Int), false, 0, 5)) = some (r1, r2, r3, r4, r5) := by rw [if_pos rfl] at H; exact H
       clear H
       have H := H1
       clear H1
       simp only [Option.some.injEq, Prod.mk.injEq] at H
       obtain ⟨rfl, rfl, rfl, rfl, rfl⟩ := H
       have hcz22_0 : wc.cell? ⟨gb298, 0, none⟩ = some (.int .i64 0) := (blk_cell BK298.out 0).trans rfl
       have hcz22_1 : wc.cell? ⟨gb298, 1, none⟩ = some (.slice none 0 0) := (blk_cell BK298.out 1).trans rfl
       have hcz22_2 : wc.cell? ⟨gb298, 2, none⟩ = some (.bool false) := (blk_cell BK298.out 2).trans rfl
       have hcz22_3 : wc.cell? ⟨gb298, 3, none⟩ = some (.int .i64 0) := (blk_cell BK298.out 3).trans rfl
       have hfz22_0 := blk_frozen BK298.out 0
       have hfz22_1 := blk_frozen BK298.out 1
       have hfz22_2 := blk_frozen BK298.out 2
       have hfz22_3 := blk_frozen BK298.out 3
       go_wp2
       try (go_step3; (try go_wp2))
       try simp only [Exit.noGoto_ret]
       refine bodyPost_ret (results_ct rfl _ _ gb298 33 #[.int .i64 0, .slice none 0 0, .bool false, .int .i64 0] (0, 0) _ rfl (by (with_reducible repeat (first | refine blk_drewN ?_ _ | refine blk_drew ?_ | refine blk_alloc ?_ _)); refine blk_put (cs := #[.int .i64 0, .slice none 0 0, .bool false, .int .i64 0]) ?_ 3 _ rfl; (with_reducible repeat (first | refine blk_drewN ?_ _ | refine blk_drew ?_ | refine blk_alloc ?_ _)); refine blk_put (cs := #[.int .i64 0, .slice none 0 0, .bool false, .int .i64 0]) ?_ 2 _ rfl; (with_reducible repeat (first | refine blk_drewN ?_ _ | refine blk_drew ?_ | refine blk_alloc ?_ _)); refine blk_put (cs := #[.int .i64 0, .slice none 0 0, .bool false, .int .i64 0]) ?_ 1 _ rfl; (with_reducible repeat (first | refine blk_drewN ?_ _ | refine blk_drew ?_ | refine blk_alloc ?_ _)); refine blk_put (cs := #[.int .i64 0, .slice none 0 0, .bool false, .int .i64 0]) ?_ 0 _ rfl; (with_reducible repeat (first | refine blk_drewN ?_ _ | refine blk_drew ?_ | refine blk_alloc ?_ _)); exact BK298.out) Try.underlying33 rfl (by kernel_rfl)) rfl ?_
       exact ⟨_, by first | rfl | (simp [errW_none, errW_some] <;> rfl) | (simp [*, errW_none, errW_some] <;> rfl), by first | exact Kd.R_nil _ _ _ _ _ | exact Kd.N_nil _ _ _ _ _ | exact Kd.V_nil _ _ _ _ _ | exact Kd.Q_nil _ _ _ _ _ | exact Kd.S_nil _ _ _ _ _, by repeat (first | (with_reducible first | exact HB.out | apply below_alloc | apply pw_below_drewN | apply below_drew1 | refine below_set ?_ GE298.out) | exact HB.out)⟩
      ·
       replace c21 := Bool.eq_false_iff.mpr c21
       subst c21
       have H1 : (shard_Scan.l0 kj13 l0 t300 (wrap64 (t305)) ([] : List Int) false t300) = some (r1, r2, r3, r4, r5) := by rw [if_neg (show ¬ (false = true) by decide)] at H; exact H
       clear H
       have H := H1
       clear H1
       have H' := Aside0.mk H
       clear H
       have hcz23_0 : wc.cell? ⟨gb298, 0, none⟩ = some (.int .i64 0) := (blk_cell BK298.out 0).trans rfl
       have hcz23_1 : wc.cell? ⟨gb298, 1, none⟩ = some (.slice none 0 0) := (blk_cell BK298.out 1).trans rfl
       have hcz23_2 : wc.cell? ⟨gb298, 2, none⟩ = some (.bool false) := (blk_cell BK298.out 2).trans rfl
       have hcz23_3 : wc.cell? ⟨gb298, 3, none⟩ = some (.int .i64 0) := (blk_cell BK298.out 3).trans rfl
       have hfz23_0 := blk_frozen BK298.out 0
       have hfz23_1 := blk_frozen BK298.out 1
       have hfz23_2 := blk_frozen BK298.out 2
       have hfz23_3 := blk_frozen BK298.out 3
       go_wp2
       try (go_step3; (try go_wp2))
       try simp only [Exit.noGoto_ret]
       go_loopg [5] kj13 (fun kq v5 w' => ∃ (x5_3 : Int) (x299001_3 : List Int) (x299002_3 : Bool) (x299003_3 : Int) (u299001 : Value), v5 = .int .i64 x5_3 ∧ Aside0 (shard_Scan.l0 kq l0 x5_3 (wrap64 (t305)) x299001_3 x299002_3 x299003_3 = some (r1, r2, r3, r4, r5)) ∧ Aside0 (kq ≤ kj13) ∧ Aside0 (Kd.R (Kd.int .i64) 3 w' w.heap.size (fun _ => True) u299001 x299001_3) ∧ Aside0 (w'.heap[gb298]? = some (.cells #[.int .i64 (wrap64 (t305)), u299001, .bool x299002_3, .int .i64 x299003_3] 33 (0, 0))) ∧ Aside0 (Below w.heap.size w w'))
       case atStart => exact ⟨(t300), (([] : List Int)), (false), (t300), (.slice none 0 0), (by first | rfl | (simp; done) | (simp [*]; done)), H', ⟨Nat.le_refl _⟩, ⟨by first | exact Kd.R_nil _ _ _ _ _ | exact Kd.N_nil _ _ _ _ _ | exact Kd.V_nil _ _ _ _ _ | exact Kd.Q_nil _ _ _ _ _ | exact Kd.S_nil _ _ _ _ _⟩, ⟨by (with_reducible repeat (first | refine blk_drewN ?_ _ | refine blk_drew ?_ | refine blk_alloc ?_ _)); refine blk_put (cs := #[.int .i64 (wrap64 (t305)), .slice none 0 0, .bool false, .int .i64 0]) ?_ 3 _ rfl; (with_reducible repeat (first | refine blk_drewN ?_ _ | refine blk_drew ?_ | refine blk_alloc ?_ _)); refine blk_put (cs := #[.int .i64 (wrap64 (t305)), .slice none 0 0, .bool false, .int .i64 0]) ?_ 2 _ rfl; (with_reducible repeat (first | refine blk_drewN ?_ _ | refine blk_drew ?_ | refine blk_alloc ?_ _)); refine blk_put (cs := #[.int .i64 (wrap64 (t305)), .slice none 0 0, .bool false, .int .i64 0]) ?_ 1 _ rfl; (with_reducible repeat (first | refine blk_drewN ?_ _ | refine blk_drew ?_ | refine blk_alloc ?_ _)); refine blk_put (cs := #[.int .i64 0, .slice none 0 0, .bool false, .int .i64 0]) ?_ 0 _ rfl; (with_reducible repeat (first | refine blk_drewN ?_ _ | refine blk_drew ?_ | refine blk_alloc ?_ _)); exact BK298.out⟩, ⟨by repeat (first | (with_reducible first | exact HB.out | apply below_alloc | apply pw_below_drewN | apply below_drew1 | refine below_set ?_ GE298.out) | exact HB.out)⟩⟩
       case round =>
        clear H'
        try clear c1
        try clear c2
        try clear p2
        try clear c3
        try clear p3
        try clear q3
        try clear hx3
        try clear qi3
        try clear c6
        try clear c6b0
        try clear c6b1
        try clear p6
        try clear c7
        try clear c7b0
        try clear c7b1
        try clear c7b2
        try clear c9
        try clear c9b0
        try clear c9b1
        try clear c11
        try clear c16
        try clear c17
        try clear c18
        try clear c18b0
        try clear c18b1
        try clear c21
        try clear hcz12_0
        try clear hcz12_1
        try clear hcz12_2
        try clear hcz12_3
        try clear hcz22_0
        try clear hcz22_1
        try clear hcz22_2
        try clear hcz22_3
        try clear hcz23_0
        try clear hcz23_1
        try clear hcz23_2
        try clear hcz23_3
        try clear hfz12_0
        try clear hfz12_1
        try clear hfz12_2
        try clear hfz12_3
        try clear hfz22_0
        try clear hfz22_1
        try clear hfz22_2
        try clear hfz22_3
        try clear hfz23_0
        try clear hfz23_1
        try clear hfz23_2
        try clear hfz23_3
        try clear hx304_0
        try clear p2
        try clear p3
        try clear p304
        try clear q3
        try clear q304
        obtain ⟨x5_3, x299001_3, x299002_3, x299003_3, u299001, rfl, HA, HK3, HO_299001, BK298, HB⟩ := hrel
        cases gk with
        | zero => exact absurd HA.out (by simp [shard_Scan.l0])
        | succ k3 =>
         have H := HA.out
         clear HA
         simp only [shard_Scan.l0] at H
         replace H := Option.bind_eq_some_iff.mp H
         obtain ⟨⟨t310, t311, t312⟩, A240, H⟩ := H
         replace H : (if t312 = 0 then (shard_Scan.j3 k3 l0 x5_3 t310 t311 ((t310.length : Int) == 0) (wrap64 (t305)) x299001_3 x299002_3 x299003_3) else (shard_Scan.j3 k3 l0 x5_3 t310 t311 true (wrap64 (t305)) x299001_3 x299002_3 x299003_3)) = some (r1, r2, r3, r4, r5) := H
         have A24 := Aside0.mk A240
         clear A240
         have HC25 := Aside0.mk H
         clear H
         go_upto_region 9 with (first | ((with_reducible refine gate_callee (f := 37) rfl ?_); refine goesL_ (some 57) rfl rfl Try.func37 (by kernel_rfl) rfl #[.slice A0 l0.length c0, .int .i64 x5_3] rfl (by (try simp only [List.map_toArray, List.map_cons, List.map_nil]); first | done | rfl | (simp only [List.length_drop, List.length_take]; rfl)) ?_; (with_reducible refine (frame_Get.calls k3 _ _ l0 x5_3 t310 t311 t312 _ ?side1 ?side2 A24.out).mono ?_); (case side1 => repeat (first | exact (Kd.C_below HR0.out HB.out) | (with_reducible refine Kd.C_alloc ?_ _) | (with_reducible refine Kd.C_drewN ?_ _) | (with_reducible refine Kd.C_drew ?_))); (case side2 => exact HC0.out); rintro e w26 ⟨v313, rfl, ho0, hb⟩; refine ⟨_, rfl, ?_⟩; have n0_ := Aside0.mk (Kd.R_below (by (with_reducible repeat (first | apply Kd.R_alloc | apply Kd.R_drewN | apply Kd.R_drew)); exact HO_299001.out) hb); have n1_ := Aside0.mk (Kd.R_lower ho0 (below_size (by repeat (first | (with_reducible first | exact HB.out | apply below_alloc | apply pw_below_drewN | apply below_drew1 | refine below_set ?_ GE298.out) | exact HB.out)))); have n2_ := Aside0.mk (blk_below (g := gb298) (o := .cells #[.int .i64 (wrap64 (t305)), u299001, .bool x299002_3, .int .i64 x299003_3] 33 (0, 0)) (by (with_reducible repeat (first | refine blk_drewN ?_ _ | refine blk_drew ?_ | refine blk_alloc ?_ _)); exact BK298.out) hb); have n3_ := Aside0.mk (below_step (by repeat (first | (with_reducible first | exact HB.out | apply below_alloc | apply pw_below_drewN | apply below_drew1 | refine below_set ?_ GE298.out) | exact HB.out)) hb); clear HO_299001; clear BK298; clear HB; have HO_299001 := n0_; have HO314 := n1_; have BK298 := n2_; have HB := n3_; clear n0_ n1_ n2_ n3_; (try clear hb); (try clear hb2); (try clear hk); (try clear hi); (try clear ho0)))
         (try simp only [Act.put, List.setIfInBounds_toArray, List.set_cons_zero, List.set_cons_succ])
         go_cut [67] (fun v67 wc => ∃ (kq : Nat) (x67_24 : Bool), v67 = .bool x67_24 ∧ Aside0 (shard_Scan.j3 kq l0 x5_3 t310 t311 x67_24 (wrap64 (t305)) x299001_3 x299002_3 x299003_3 = some (r1, r2, r3, r4, r5)) ∧ Aside0 (kq ≤ k3) ∧ Aside0 (Kd.R (Kd.int .u8) 5 wc w.heap.size (fun _ => True) v313 t310) ∧ Aside0 (Kd.R (Kd.int .i64) 3 wc w.heap.size (fun _ => True) u299001 x299001_3) ∧ Aside0 (wc.heap[gb298]? = some (.cells #[.int .i64 (wrap64 (t305)), u299001, .bool x299002_3, .int .i64 x299003_3] 33 (0, 0))) ∧ Aside0 (Below w.heap.size w wc))
         case first =>
          have H := HC25.out
          clear HC25
          by_cases c27 : t312 = 0
          ·
           rw [if_pos c27] at H
           have c27b0 : (t312 == 0) = true := beq_iff_eq.mpr c27
           have c27b1 : (t312 != 0) = false := bne_eq_false_iff_eq.mpr c27
           clear c27
           (first | rw [c27b0] | (simp only [i64_w, i32_w]; rw [c27b0]) | skip)
           have H' := Aside0.mk H
           clear H
           obtain ⟨Ao28, co28, eo28⟩ := Kd.R_slice HO314.out
           subst eo28
           go_wp2
           try (go_step3; (try go_wp2))
           try simp only [Exit.noGoto_ret]
           go_meet
           case rel => exact ⟨_, (((t310.length : Int) == 0)), (by first | rfl | (simp; done) | (simp [*]; done)), H', ⟨by have := HJ2.out; have := HJ13.out; have := HK3.out; first | omega | exact Nat.le_refl _⟩, ⟨by (with_reducible repeat (first | apply Kd.R_alloc | apply Kd.R_drewN | apply Kd.R_drew)); exact HO314.out⟩, ⟨by (with_reducible repeat (first | apply Kd.R_alloc | apply Kd.R_drewN | apply Kd.R_drew)); exact HO_299001.out⟩, ⟨by (with_reducible repeat (first | refine blk_drewN ?_ _ | refine blk_drew ?_ | refine blk_alloc ?_ _)); exact BK298.out⟩, ⟨by repeat (first | (with_reducible first | exact HB.out | apply below_alloc | apply pw_below_drewN | apply below_drew1 | refine below_set ?_ GE298.out) | exact HB.out)⟩⟩
          ·
           rw [if_neg c27] at H
           have c27b0 : (t312 == 0) = false := beq_eq_false_iff_ne.mpr c27
           have c27b1 : (t312 != 0) = true := bne_iff_ne.mpr c27
           (first | rw [c27b0] | (simp only [i64_w, i32_w]; rw [c27b0]) | skip)
           have H' := Aside0.mk H
           clear H
           go_wp2
           try (go_step3; (try go_wp2))
           try simp only [Exit.noGoto_ret]
           go_meet
           case rel => exact ⟨_, (true), (by first | rfl | (simp; done) | (simp [*]; done)), H', ⟨by have := HJ2.out; have := HJ13.out; have := HK3.out; first | omega | exact Nat.le_refl _⟩, ⟨by (with_reducible repeat (first | apply Kd.R_alloc | apply Kd.R_drewN | apply Kd.R_drew)); exact HO314.out⟩, ⟨by (with_reducible repeat (first | apply Kd.R_alloc | apply Kd.R_drewN | apply Kd.R_drew)); exact HO_299001.out⟩, ⟨by (with_reducible repeat (first | refine blk_drewN ?_ _ | refine blk_drew ?_ | refine blk_alloc ?_ _)); exact BK298.out⟩, ⟨by repeat (first | (with_reducible first | exact HB.out | apply below_alloc | apply pw_below_drewN | apply below_drew1 | refine below_set ?_ GE298.out) | exact HB.out)⟩⟩
         case rest =>
          clear HC25
          try clear c1
          try clear c2
          try clear p2
          try clear c3
          try clear p3
          try clear q3
          try clear hx3
          try clear qi3
          try clear c6
          try clear c6b0
          try clear c6b1
          try clear p6
          try clear c7
          try clear c7b0
          try clear c7b1
          try clear c7b2
          try clear c9
          try clear c9b0
          try clear c9b1
          try clear c11
          try clear c16
          try clear c17
          try clear c18
          try clear c18b0
          try clear c18b1
          try clear c21
          try clear c27
          try clear c27b0
          try clear c27b1
          try clear hcz12_0
          try clear hcz12_1
          try clear hcz12_2
          try clear hcz12_3
          try clear hcz22_0
          try clear hcz22_1
          try clear hcz22_2
          try clear hcz22_3
          try clear hcz23_0
          try clear hcz23_1
          try clear hcz23_2
          try clear hcz23_3
          try clear hfz12_0
          try clear hfz12_1
          try clear hfz12_2
          try clear hfz12_3
          try clear hfz22_0
          try clear hfz22_1
          try clear hfz22_2
          try clear hfz22_3
          try clear hfz23_0
          try clear hfz23_1
          try clear hfz23_2
          try clear hfz23_3
          try clear hx304_0
          try clear p2
          try clear p3
          try clear p304
          try clear p6
          try clear q3
          try clear q304
          obtain ⟨kq, x67_24, rfl, HA, HJ24, HO_9, HO_299001, BK298, HB⟩ := hcut
          cases kq with
          | zero => exact absurd HA.out (by simp [shard_Scan.j3])
          | succ kj24 =>
           have H := HA.out
           clear HA
           simp only [shard_Scan.j3] at H
           by_cases c29 : x67_24 = true
           ·
            subst c29
            have H1 : (some ((wrap64 (t305)), x299001_3, x299002_3, x299003_3, 0)) = some (r1, r2, r3, r4, r5) := by rw [if_pos rfl] at H; exact H
            clear H
            have H := H1
            clear H1
            simp only [Option.some.injEq, Prod.mk.injEq] at H
            obtain ⟨rfl, rfl, rfl, rfl, rfl⟩ := H
            have hcz30_0 : wc.cell? ⟨gb298, 0, none⟩ = some (.int .i64 (wrap64 (t305))) := (blk_cell BK298.out 0).trans rfl
            have hcz30_1 : wc.cell? ⟨gb298, 1, none⟩ = some (u299001) := (blk_cell BK298.out 1).trans rfl
            have hcz30_2 : wc.cell? ⟨gb298, 2, none⟩ = some (.bool x299002_3) := (blk_cell BK298.out 2).trans rfl
            have hcz30_3 : wc.cell? ⟨gb298, 3, none⟩ = some (.int .i64 x299003_3) := (blk_cell BK298.out 3).trans rfl
            have hfz30_0 := blk_frozen BK298.out 0
            have hfz30_1 := blk_frozen BK298.out 1
            have hfz30_2 := blk_frozen BK298.out 2
            have hfz30_3 := blk_frozen BK298.out 3
            obtain ⟨Ao31, co31, eo31⟩ := Kd.R_slice HO_299001.out
            subst eo31
            go_wp2
            try (go_step3; (try go_wp2))
            try simp only [Exit.noGoto_ret]
            refine bodyPost_ret (results_ct rfl _ _ gb298 33 #[.int .i64 (wrap64 (t305)), .slice Ao31 x299001_3.length co31, .bool x299002_3, .int .i64 x299003_3] (0, 0) _ rfl (by (with_reducible repeat (first | refine blk_drewN ?_ _ | refine blk_drew ?_ | refine blk_alloc ?_ _)); refine blk_put (cs := #[.int .i64 (wrap64 (t305)), .slice Ao31 x299001_3.length co31, .bool x299002_3, .int .i64 x299003_3]) ?_ 3 _ rfl; (with_reducible repeat (first | refine blk_drewN ?_ _ | refine blk_drew ?_ | refine blk_alloc ?_ _)); refine blk_put (cs := #[.int .i64 (wrap64 (t305)), .slice Ao31 x299001_3.length co31, .bool x299002_3, .int .i64 x299003_3]) ?_ 2 _ rfl; (with_reducible repeat (first | refine blk_drewN ?_ _ | refine blk_drew ?_ | refine blk_alloc ?_ _)); refine blk_put (cs := #[.int .i64 (wrap64 (t305)), .slice Ao31 x299001_3.length co31, .bool x299002_3, .int .i64 x299003_3]) ?_ 1 _ rfl; (with_reducible repeat (first | refine blk_drewN ?_ _ | refine blk_drew ?_ | refine blk_alloc ?_ _)); refine blk_put (cs := #[.int .i64 (wrap64 (t305)), .slice Ao31 x299001_3.length co31, .bool x299002_3, .int .i64 x299003_3]) ?_ 0 _ rfl; (with_reducible repeat (first | refine blk_drewN ?_ _ | refine blk_drew ?_ | refine blk_alloc ?_ _)); exact BK298.out) Try.underlying33 rfl (by kernel_rfl)) rfl ?_
            exact ⟨_, by first | rfl | (simp [errW_none, errW_some] <;> rfl) | (simp [*, errW_none, errW_some] <;> rfl), by (with_reducible repeat (first | apply Kd.R_alloc | apply Kd.R_drewN | apply Kd.R_drew)); exact Kd.R_mono (Kd.R_far (p := ⟨gb298, 3, none⟩) (Kd.R_far (p := ⟨gb298, 2, none⟩) (Kd.R_far (p := ⟨gb298, 1, none⟩) (Kd.R_far (p := ⟨gb298, 0, none⟩) (Kd.R_types HO_299001.out BK298.out (by decide)) (fun _ hk => hk.2) (.int .i64 (wrap64 (t305)))) (fun _ hk => hk.2) (.slice Ao31 x299001_3.length co31)) (fun _ hk => hk.2) (.bool x299002_3)) (fun _ hk => hk.2) (.int .i64 x299003_3)) (fun _ hk => trivial), by repeat (first | (with_reducible first | exact HB.out | apply below_alloc | apply pw_below_drewN | apply below_drew1 | refine below_set ?_ GE298.out) | exact HB.out)⟩
           ·
            replace c29 := Bool.eq_false_iff.mpr c29
            subst c29
            have H1 : (if 0 < (t310.length : Int) then (if (rd t310 0) = 114 then (if x299001_3.length < 17592186044416 then (shard_Scan.l0 kj24 l0 t311 (wrap64 (t305)) (x299001_3 ++ [x5_3]) x299002_3 t311) else (none)) else (if (rd t310 0) = 102 then (if 0 ≤ x5_3 then (if x5_3 ≤ (l0.length : Int) then ((shard_foot.f kj24 (x299001_3.length : Int) (l0.take (x5_3 : Int).toNat)).bind fun t320 => (if (strOfNums t310).toList = (strOfNums t320).toList then (some ((wrap64 (t305)), x299001_3, true, t311, 0)) else (some ((wrap64 (t305)), x299001_3, x299002_3, x299003_3, 0)))) else (none)) else (none)) else (some ((wrap64 (t305)), x299001_3, x299002_3, x299003_3, 0)))) else (none)) = some (r1, r2, r3, r4, r5) := by rw [if_neg (show ¬ (false = true) by decide)] at H; exact H
            clear H
            have H := H1
            clear H1
            by_cases c32 : 0 < (t310.length : Int)
            ·
             rw [if_pos c32] at H
             have c32b0 : decide (0 < (t310.length : Int)) = true := decide_eq_true c32
             have c32b1 : decide (0 < t310.length) = true := decide_eq_true (by omega)
             clear c32
             by_cases c33 : (rd t310 0) = 114
             ·
              rw [if_pos c33] at H
              have c33b0 : ((rd t310 0) == 114) = true := beq_iff_eq.mpr c33
              have c33b1 : ((rd t310 0) != 114) = false := bne_eq_false_iff_eq.mpr c33
              clear c33
              by_cases c34 : x299001_3.length < 17592186044416
              ·
               rw [if_pos c34] at H
               have LMc34 := Aside0.mk c34
               clear c34
               obtain ⟨y316, hy316⟩ : ∃ y_ : List Int, y_ = (x299001_3 ++ [x5_3]) := ⟨_, rfl⟩
               replace H : (shard_Scan.l0 kj24 l0 t311 (wrap64 (t305)) y316 x299002_3 t311) = some (r1, r2, r3, r4, r5) := by first | (rw [hy316]; with_reducible exact H) | (have H2_ := (Option.bind_some _ _).symm.trans H; rw [hy316]; with_reducible exact H2_) | (have H2_ := (Option.bind_some _ _).symm.trans H; with_reducible exact H2_) | with_reducible exact H | (rw [hy316]; exact H) | exact H
               have Ny316 := Aside0.mk hy316
               clear hy316
               have H' := Aside0.mk H
               clear H
               obtain ⟨Ao35, co35, eo35⟩ := Kd.R_slice HO_9.out
               subst eo35
               have p315 : 0 ≤ (0 : Int) := (by omega)
               have q315 : 0 < (t310.length : Int) := of_decide_eq_true (by first | (with_reducible assumption) | assumption)
               obtain ⟨ad315, e315, hx315_0⟩ := Kd.at_int (Kd.R_reads' HO_9.out).2.2 0 p315 q315
               cases e315
               have qi315 : (0 < t310.length) = True := eq_true (by omega)
               (try rw [show ((0 : Int)).toNat = 0 from rfl] at hx315_0)
               (try rw [Addr.add_zero'] at hx315_0)
               replace p315 := eq_true p315
               replace q315 := eq_true q315
               have hcz36_0 : wc.cell? ⟨gb298, 0, none⟩ = some (.int .i64 (wrap64 (t305))) := (blk_cell BK298.out 0).trans rfl
               have hcz36_1 : wc.cell? ⟨gb298, 1, none⟩ = some (u299001) := (blk_cell BK298.out 1).trans rfl
               have hcz36_2 : wc.cell? ⟨gb298, 2, none⟩ = some (.bool x299002_3) := (blk_cell BK298.out 2).trans rfl
               have hcz36_3 : wc.cell? ⟨gb298, 3, none⟩ = some (.int .i64 x299003_3) := (blk_cell BK298.out 3).trans rfl
               have hfz36_0 := blk_frozen BK298.out 0
               have hfz36_1 := blk_frozen BK298.out 1
               have hfz36_2 := blk_frozen BK298.out 2
               have hfz36_3 := blk_frozen BK298.out 3
               go_wp2_with (first | ((with_reducible refine gate_builtin (b := .append) (xs := #[.tmp 74, .tmp 76]) rfl ?_); (try (refine gate_guard (by rfl) ?_; dsimp only)); at_builtin; refine Kd.R_append (Kd.int .i64) (w0 := w) w.heap.size rfl (.tmp 74) (.tmp 76) 31 3 (.int .i64 0) 8 rfl Try.underlying31 info3 rfl (by decide) (by omega) u299001 x299001_3 x5_3 [.int .i64 x5_3] (fun _ => True) (fun _ => False) rfl rfl ?aP (fun _ hk => hk.elim) ?aF ?aO ?aB ?aS ?aL ?_; (case aP => exact rfl); (case aB => exact (by repeat (first | (with_reducible first | exact HB.out | apply below_alloc | apply pw_below_drewN | apply below_drew1 | refine below_set ?_ GE298.out) | exact HB.out))); (case aF => exact (fun _ _ => trivial)); (case aO => exact (by (with_reducible repeat (first | apply Kd.R_alloc | apply Kd.R_drewN | apply Kd.R_drew)); exact HO_299001.out)); (case aS => exact (below_size (by repeat (first | (with_reducible first | exact HB.out | apply below_alloc | apply pw_below_drewN | apply below_drew1 | refine below_set ?_ GE298.out) | exact HB.out)))); (case aL => have := LMc34.out; omega); intro v317 w37 ho hb hg hat; rw [← Ny316.out] at ho; have n0_ := Aside0.mk (Kd.R_over' (by (with_reducible repeat (first | apply Kd.R_alloc | apply Kd.R_drewN | apply Kd.R_drew)); exact HO_9.out) (Kd.R_typed (by (with_reducible repeat (first | apply Kd.R_alloc | apply Kd.R_drewN | apply Kd.R_drew)); exact HO_299001.out)) (by decide) hg); have n1_ := Aside0.mk (blk_grown (g := gb298) (o := .cells #[.int .i64 (wrap64 (t305)), u299001, .bool x299002_3, .int .i64 x299003_3] 33 (0, 0)) (by (with_reducible repeat (first | refine blk_drewN ?_ _ | refine blk_drew ?_ | refine blk_alloc ?_ _)); exact BK298.out) hg (Kd.R_ne HO_299001.out BK298.out (by decide))); have n2_ := Aside0.mk (hb); have n3_ := Aside0.mk (ho); clear HO_9; clear BK298; clear HB; clear HO_299001; have HO_9 := n0_; have BK298 := n1_; have HB := n2_; have HO318 := n3_; clear n0_ n1_ n2_ n3_; clear ho hb hg hat; obtain ⟨Ao38, co38, eo38⟩ := Kd.R_slice HO318.out; subst eo38; have hcz39_0 : w37.cell? ⟨gb298, 0, none⟩ = some (.int .i64 (wrap64 (t305))) := (blk_cell BK298.out 0).trans rfl; have hcz39_1 : w37.cell? ⟨gb298, 1, none⟩ = some (u299001) := (blk_cell BK298.out 1).trans rfl; have hcz39_2 : w37.cell? ⟨gb298, 2, none⟩ = some (.bool x299002_3) := (blk_cell BK298.out 2).trans rfl; have hcz39_3 : w37.cell? ⟨gb298, 3, none⟩ = some (.int .i64 x299003_3) := (blk_cell BK298.out 3).trans rfl; have hfz39_0 := blk_frozen BK298.out 0; have hfz39_1 := blk_frozen BK298.out 1; have hfz39_2 := blk_frozen BK298.out 2; have hfz39_3 := blk_frozen BK298.out 3))
               try (go_step3; (try go_wp2_with (first | ((with_reducible refine gate_builtin (b := .append) (xs := #[.tmp 74, .tmp 76]) rfl ?_); (try (refine gate_guard (by rfl) ?_; dsimp only)); at_builtin; refine Kd.R_append (Kd.int .i64) (w0 := w) w.heap.size rfl (.tmp 74) (.tmp 76) 31 3 (.int .i64 0) 8 rfl Try.underlying31 info3 rfl (by decide) (by omega) u299001 x299001_3 x5_3 [.int .i64 x5_3] (fun _ => True) (fun _ => False) rfl rfl ?aP (fun _ hk => hk.elim) ?aF ?aO ?aB ?aS ?aL ?_; (case aP => exact rfl); (case aB => exact (by repeat (first | (with_reducible first | exact HB.out | apply below_alloc | apply pw_below_drewN | apply below_drew1 | refine below_set ?_ GE298.out) | exact HB.out))); (case aF => exact (fun _ _ => trivial)); (case aO => exact (by (with_reducible repeat (first | apply Kd.R_alloc | apply Kd.R_drewN | apply Kd.R_drew)); exact HO_299001.out)); (case aS => exact (below_size (by repeat (first | (with_reducible first | exact HB.out | apply below_alloc | apply pw_below_drewN | apply below_drew1 | refine below_set ?_ GE298.out) | exact HB.out)))); (case aL => have := LMc34.out; omega); intro v317 w37 ho hb hg hat; rw [← Ny316.out] at ho; have n0_ := Aside0.mk (Kd.R_over' (by (with_reducible repeat (first | apply Kd.R_alloc | apply Kd.R_drewN | apply Kd.R_drew)); exact HO_9.out) (Kd.R_typed (by (with_reducible repeat (first | apply Kd.R_alloc | apply Kd.R_drewN | apply Kd.R_drew)); exact HO_299001.out)) (by decide) hg); have n1_ := Aside0.mk (blk_grown (g := gb298) (o := .cells #[.int .i64 (wrap64 (t305)), u299001, .bool x299002_3, .int .i64 x299003_3] 33 (0, 0)) (by (with_reducible repeat (first | refine blk_drewN ?_ _ | refine blk_drew ?_ | refine blk_alloc ?_ _)); exact BK298.out) hg (Kd.R_ne HO_299001.out BK298.out (by decide))); have n2_ := Aside0.mk (hb); have n3_ := Aside0.mk (ho); clear HO_9; clear BK298; clear HB; clear HO_299001; have HO_9 := n0_; have BK298 := n1_; have HB := n2_; have HO318 := n3_; clear n0_ n1_ n2_ n3_; clear ho hb hg hat; obtain ⟨Ao38, co38, eo38⟩ := Kd.R_slice HO318.out; subst eo38; have hcz39_0 : w37.cell? ⟨gb298, 0, none⟩ = some (.int .i64 (wrap64 (t305))) := (blk_cell BK298.out 0).trans rfl; have hcz39_1 : w37.cell? ⟨gb298, 1, none⟩ = some (u299001) := (blk_cell BK298.out 1).trans rfl; have hcz39_2 : w37.cell? ⟨gb298, 2, none⟩ = some (.bool x299002_3) := (blk_cell BK298.out 2).trans rfl; have hcz39_3 : w37.cell? ⟨gb298, 3, none⟩ = some (.int .i64 x299003_3) := (blk_cell BK298.out 3).trans rfl; have hfz39_0 := blk_frozen BK298.out 0; have hfz39_1 := blk_frozen BK298.out 1; have hfz39_2 := blk_frozen BK298.out 2; have hfz39_3 := blk_frozen BK298.out 3))))
               try simp only [Exit.noGoto_ret]
               go_roundg kj24
               case measure => have := HJ2.out; have := HJ13.out; have := HK3.out; have := HJ24.out; omega
               case rel => exact ⟨(t311), (y316), (x299002_3), (t311), (.slice Ao38 y316.length co38), (by first | rfl | (simp; done) | (simp [*]; done)), H', ⟨by have := HJ2.out; have := HJ13.out; have := HK3.out; have := HJ24.out; omega⟩, ⟨by (with_reducible repeat (first | apply Kd.R_alloc | apply Kd.R_drewN | apply Kd.R_drew)); exact Kd.R_mono (Kd.R_far (p := ⟨gb298, 3, none⟩) (Kd.R_far (p := ⟨gb298, 1, none⟩) (Kd.R_types HO318.out BK298.out (by decide)) (fun _ hk => hk.2) (.slice Ao38 y316.length co38)) (fun _ hk => hk.2) (.int .i64 t311)) (fun _ hk => trivial)⟩, ⟨by (with_reducible repeat (first | refine blk_drewN ?_ _ | refine blk_drew ?_ | refine blk_alloc ?_ _)); refine blk_put (cs := #[.int .i64 (wrap64 (t305)), .slice Ao38 y316.length co38, .bool x299002_3, .int .i64 x299003_3]) ?_ 3 _ rfl; (with_reducible repeat (first | refine blk_drewN ?_ _ | refine blk_drew ?_ | refine blk_alloc ?_ _)); refine blk_put (cs := #[.int .i64 (wrap64 (t305)), u299001, .bool x299002_3, .int .i64 x299003_3]) ?_ 1 _ rfl; (with_reducible repeat (first | refine blk_drewN ?_ _ | refine blk_drew ?_ | refine blk_alloc ?_ _)); exact BK298.out⟩, ⟨by repeat (first | (with_reducible first | exact HB.out | apply below_alloc | apply pw_below_drewN | apply below_drew1 | refine below_set ?_ GE298.out) | exact HB.out)⟩⟩
              ·
               rw [if_neg c34] at H
               exact absurd H (by simp)
             ·
              rw [if_neg c33] at H
              have c33b0 : ((rd t310 0) == 114) = false := beq_eq_false_iff_ne.mpr c33
              have c33b1 : ((rd t310 0) != 114) = true := bne_iff_ne.mpr c33
              by_cases c40 : (rd t310 0) = 102
              ·
               rw [if_pos c40] at H
               have c40b0 : ((rd t310 0) == 102) = true := beq_iff_eq.mpr c40
               have c40b1 : ((rd t310 0) != 102) = false := bne_eq_false_iff_eq.mpr c40
               clear c40
               by_cases c41 : 0 ≤ x5_3
               ·
                rw [if_pos c41] at H
                have c41b0 := eq_true c41
                have c41b1 : decide (0 ≤ x5_3) = true := decide_eq_true c41
                clear c41
                by_cases c42 : x5_3 ≤ (l0.length : Int)
                ·
                 rw [if_pos c42] at H
                 have c42b0 := eq_true c42
                 have c42b1 : decide (x5_3 ≤ (l0.length : Int)) = true := decide_eq_true c42
                 clear c42
                 replace H := Option.bind_eq_some_iff.mp H
                 obtain ⟨t320, A430, H⟩ := H
                 replace H : (if (strOfNums t310).toList = (strOfNums t320).toList then (some ((wrap64 (t305)), x299001_3, true, t311, 0)) else (some ((wrap64 (t305)), x299001_3, x299002_3, x299003_3, 0))) = some (r1, r2, r3, r4, r5) := H
                 have A43 := Aside0.mk A430
                 clear A430
                 by_cases c44 : (strOfNums t310).toList = (strOfNums t320).toList
                 ·
                  rw [if_pos c44] at H
                  have c44b0 : ((strOfNums t310).toList == (strOfNums t320).toList) = true := beq_iff_eq.mpr c44
                  have c44b1 : ((strOfNums t310).toList != (strOfNums t320).toList) = false := bne_eq_false_iff_eq.mpr c44
                  clear c44
                  simp only [Option.some.injEq, Prod.mk.injEq] at H
                  obtain ⟨rfl, rfl, rfl, rfl, rfl⟩ := H
                  obtain ⟨Ao45, co45, eo45⟩ := Kd.R_slice HO_9.out
                  subst eo45
                  have p315 : 0 ≤ (0 : Int) := (by omega)
                  have q315 : 0 < (t310.length : Int) := of_decide_eq_true (by first | (with_reducible assumption) | assumption)
                  obtain ⟨ad315, e315, hx315_0⟩ := Kd.at_int (Kd.R_reads' HO_9.out).2.2 0 p315 q315
                  cases e315
                  have qi315 : (0 < t310.length) = True := eq_true (by omega)
                  (try rw [show ((0 : Int)).toNat = 0 from rfl] at hx315_0)
                  (try rw [Addr.add_zero'] at hx315_0)
                  replace p315 := eq_true p315
                  replace q315 := eq_true q315
                  try go_wp2
                  have n0_ := Aside0.mk (Kd.R_drew HO_9.out)
                  have n1_ := Aside0.mk (Kd.R_drew HO_299001.out)
                  have n2_ := Aside0.mk (blk_drew BK298.out)
                  have n3_ := Aside0.mk (below_drew1 HB.out)
                  clear HO_9
                  clear HO_299001
                  clear BK298
                  clear HB
                  have HO_9 := n0_
                  have HO_299001 := n1_
                  have BK298 := n2_
                  have HB := n3_
                  clear n0_ n1_ n2_ n3_
                  obtain ⟨Ao47, co47, eo47⟩ := Kd.R_slice HO_299001.out
                  (first | subst eo47 | (injection eo47 with f1_ f2_ f3_; have f4_ := f1_.symm; have f5_ := f3_.symm; clear f1_ f2_ f3_; subst f4_; subst f5_))
                  obtain ⟨i048, hi048, _, hsz48, _⟩ := info_parts info5
                  obtain ⟨hcut48, hA48, hC48⟩ := print_take_of (P := Try.prog) (Value.int .u8) 0 22 5 .i64 Try.underlying22 hi048 hsz48 A0 c0 l0 x5_3 (of_decide_eq_true (by first | (with_reducible assumption) | assumption)) (of_decide_eq_true (by first | (with_reducible assumption) | assumption)) HC0.out
                  have HR319 := Aside0.mk (Kd.C_of_reads (h1 := fun _ => rfl) (hA48 _ (Kd.reads_of_C HR0.out)))
                  have HC319 := Aside0.mk hC48
                  clear hA48 hC48 hi048 hsz48
                  have hcv49 := own_string (P := Try.prog) Try.underlying22 Try.underlying5 Try.underlying9 (Kd.own_of_R HO_9.out)
                  refine start_ (n := 11) (S := fun w' => w'.cell? ⟨gb298, 0, none⟩ = some (.int .i64 (wrap64 (t305))) ∧ w'.cell? ⟨gb298, 1, none⟩ = some (.slice Ao47 x299001_3.length co47) ∧ w'.cell? ⟨gb298, 2, none⟩ = some (.bool x299002_3) ∧ w'.cell? ⟨gb298, 3, none⟩ = some (.int .i64 x299003_3) ∧ (convert 22 9 (.slice (some ad315) t310.length co45)).run Try.prog w' = .ok (.string (strOfNums t310)) w') (ds := []) b8q0 (by kernel_rfl) rfl rfl ⟨(blk_cell BK298.out 0).trans rfl, (blk_cell BK298.out 1).trans rfl, (blk_cell BK298.out 2).trans rfl, (blk_cell BK298.out 3).trans rfl, own_string (P := Try.prog) Try.underlying22 Try.underlying5 Try.underlying9 (Kd.own_of_R HO_9.out)⟩ (fun hHeld => ?_); refine with_tabW shard_Scan.tab15 shard_Scan.bits15 (fun HT_ HW_ => ?_)
                  generalize wc.drew = w46 at HO_9 HO_299001 BK298 HB HR319 hHeld ⊢
                  refine pure_ (i := 0) (N := some 84) (v := ?_) (a' := ?_) b8q1 rfl rfl (any_of HT_.out (by kernel_rfl)) (fun _ _ _ h => h) (Or.inl ⟨by rfl, ?_⟩) ?_ ?_; rotate_left; (focus (intro w'; go_simp; with_reducible rfl)); rotate_left; (focus (simp only [Act.put, List.setIfInBounds_toArray, List.set_cons_zero, List.set_cons_succ, i64_w, i32_w]; rfl))
                  refine take_ (i := 1) (N := some 85) (v := ?_) (a' := ?_) b8q2 rfl rfl (take_ofW HT_.out HW_.out (by kernel_rfl)) (fun _ _ _ h => h) (Or.inl ⟨by rfl, ?_⟩) hHeld ?_ ?_
                  rotate_left
                  ·
                   rintro w' ⟨s0, s1, s2, s3, s4⟩
                   go_simp
                   with_reducible rfl
                  rotate_left
                  ·
                   simp only [Act.put, List.setIfInBounds_toArray, List.set_cons_zero, List.set_cons_succ, i64_w, i32_w]
                   rfl
                  refine pure_ (i := 2) (N := some 86) (v := ?_) (a' := ?_) b8q3 rfl rfl (any_of HT_.out (by kernel_rfl)) (fun _ _ _ h => h) (Or.inl ⟨by rfl, ?_⟩) ?_ ?_; rotate_left; (focus (intro w'; go_simp; with_reducible rfl)); rotate_left; (focus (simp only [Act.put, List.setIfInBounds_toArray, List.set_cons_zero, List.set_cons_succ, i64_w, i32_w]; rfl))
                  refine pure_ (i := 5) (N := some 89) (v := ?_) (a' := ?_) b8q4 rfl rfl (any_of HT_.out (by kernel_rfl)) (fun _ _ _ h => h) (Or.inl ⟨by rfl, ?_⟩) ?_ ?_; rotate_left; (focus (intro w'; go_simp; with_reducible rfl)); rotate_left; (focus (simp only [Act.put, List.setIfInBounds_toArray, List.set_cons_zero, List.set_cons_succ, i64_w, i32_w]; rfl))
                  refine pure_ (i := 6) (N := some 90) (v := ?_) (a' := ?_) b8q5 rfl rfl (any_of HT_.out (by kernel_rfl)) (fun _ _ _ h => h) (Or.inl ⟨by rfl, ?_⟩) ?_ ?_; rotate_left; (focus (intro w'; go_simp; with_reducible rfl)); rotate_left; (focus (simp only [Act.put, List.setIfInBounds_toArray, List.set_cons_zero, List.set_cons_succ, i64_w, i32_w]; rfl))
                  refine pure_ (i := 7) (N := some 91) (v := ?_) (a' := ?_) b8q6 rfl rfl (any_of HT_.out (by kernel_rfl)) (fun _ _ _ h => h) (Or.inl ⟨by rfl, ?_⟩) ?_ ?_; rotate_left; (focus (intro w'; go_simp; with_reducible rfl)); rotate_left; (focus (simp only [Act.put, List.setIfInBounds_toArray, List.set_cons_zero, List.set_cons_succ, i64_w, i32_w]; rfl))
                  refine take_ (i := 3) (N := some 87) (v := ?_) (a' := ?_) b8q7 rfl rfl (take_ofW HT_.out HW_.out (by kernel_rfl)) (fun _ _ _ h => h) (Or.inl ⟨by rfl, ?_⟩) hHeld ?_ ?_
                  rotate_left
                  ·
                   rintro w' ⟨s0, s1, s2, s3, s4⟩
                   go_simp
                   with_reducible rfl
                  rotate_left
                  ·
                   simp only [Act.put, List.setIfInBounds_toArray, List.set_cons_zero, List.set_cons_succ, i64_w, i32_w]
                   rfl
                  refine pure_ (i := 4) (N := some 88) (v := ?_) (a' := ?_) b8q8 rfl rfl (any_of HT_.out (by kernel_rfl)) (fun _ _ _ h => h) (Or.inl ⟨by rfl, ?_⟩) ?_ ?_; rotate_left; (focus (intro w'; go_simp; with_reducible rfl)); rotate_left; (focus (simp only [Act.put, List.setIfInBounds_toArray, List.set_cons_zero, List.set_cons_succ, i64_w, i32_w]; rfl))
                  refine one_ (i := 8) (N := some 92) b8q9 rfl rfl (one_of HT_.out (by kernel_rfl)) (by decide) (fun K hK => ?_)
                  refine goes_ Try.func39 (by kernel_rfl) rfl #[.int .i64 (x299001_3.length : Int), .slice A0 (l0.take (x5_3 : Int).toNat).length c0] (by rfl) rfl rfl (by (try simp only [List.map_toArray, List.map_cons, List.map_nil]); first | done | (rw [show (l0.take (x5_3 : Int).toNat).length = x5_3.toNat from (by rw [List.length_take]; have h_ : (x5_3 : Int) ≤ (l0.length : Int) := of_decide_eq_true (by first | (with_reducible assumption) | assumption); omega)] <;> rfl) | rfl | (simp only [List.length_drop, List.length_take]; rfl)) ?_
                  with_reducible refine (shard_foot.calls kj24 (x299001_3.length : Int) _ _ (l0.take (x5_3 : Int).toNat) t320 _ ?side1 ?side2 A43.out).mono ?_
                  (case side1 => repeat (first | exact (Kd.C_below HR319.out HB.out) | (with_reducible refine Kd.C_alloc ?_ _) | (with_reducible refine Kd.C_drewN ?_ _) | (with_reducible refine Kd.C_drew ?_)))
                  (case side2 => exact HC319.out)
                  rintro e w50 ⟨v321, rfl, ho0, hb⟩
                  refine ⟨_, rfl, ?_⟩
                  have n0_ := Aside0.mk (Kd.R_elder' (by (with_reducible repeat (first | apply Kd.R_alloc | apply Kd.R_drewN | apply Kd.R_drew)); exact HO_9.out) (Kd.R_base ho0) hb)
                  have n1_ := Aside0.mk (Kd.R_below (by (with_reducible repeat (first | apply Kd.R_alloc | apply Kd.R_drewN | apply Kd.R_drew)); exact HO_299001.out) hb)
                  have n2_ := Aside0.mk (Kd.R_lower (Kd.R_new' ho0 (Kd.R_lt (by (with_reducible repeat (first | apply Kd.R_alloc | apply Kd.R_drewN | apply Kd.R_drew)); exact HO_9.out))) (below_size (by repeat (first | (with_reducible first | exact HB.out | apply below_alloc | apply pw_below_drewN | apply below_drew1 | refine below_set ?_ GE298.out) | exact HB.out))))
                  have n3_ := Aside0.mk (blk_below (g := gb298) (o := .cells #[.int .i64 (wrap64 (t305)), .slice Ao47 x299001_3.length co47, .bool x299002_3, .int .i64 x299003_3] 33 (0, 0)) (by (with_reducible repeat (first | refine blk_drewN ?_ _ | refine blk_drew ?_ | refine blk_alloc ?_ _)); exact BK298.out) hb)
                  have n4_ := Aside0.mk (below_step (by repeat (first | (with_reducible first | exact HB.out | apply below_alloc | apply pw_below_drewN | apply below_drew1 | refine below_set ?_ GE298.out) | exact HB.out)) hb)
                  clear HO_9
                  clear HO_299001
                  clear BK298
                  clear HB
                  have HO_9 := n0_
                  have HO_299001 := n1_
                  have HO322 := n2_
                  have BK298 := n3_
                  have HB := n4_
                  clear n0_ n1_ n2_ n3_ n4_
                  (try clear hb)
                  (try clear hb2)
                  (try clear hk)
                  (try clear hi)
                  (try clear ho0)
                  refine hK.out _ _ ⟨(blk_cell BK298.out 0).trans rfl, (blk_cell BK298.out 1).trans rfl, (blk_cell BK298.out 2).trans rfl, (blk_cell BK298.out 3).trans rfl, own_string (P := Try.prog) Try.underlying22 Try.underlying5 Try.underlying9 (Kd.own_of_R HO_9.out)⟩ (fun hHeld => ?_)
                  clear hK K
                  refine norm_ (a' := ?_) ?_ ?_
                  rotate_left
                  ·
                   show Act.put _ (some 92) _ = _
                   simp only [Act.put, List.setIfInBounds_toArray, List.set_cons_zero, List.set_cons_succ, i64_w, i32_w]
                   rfl
                  refine one_ (i := 9) (N := some 93) b8q10 rfl rfl (one_of HT_.out (by kernel_rfl)) (by decide) (fun K hK => ?_)
                  have hcv51 := own_string (P := Try.prog) Try.underlying22 Try.underlying5 Try.underlying9 (Kd.own_of_R HO322.out)
                  refine value_ (w1 := ?_) (v := ?_) (by rfl) rfl ?_ ?_
                  rotate_left 2
                  ·
                   go_simp
                   constructor
                   · rfl
                   · rfl
                  clear hcv51
                  refine hK.out _ _ ⟨(blk_cell BK298.out 0).trans rfl, (blk_cell BK298.out 1).trans rfl, (blk_cell BK298.out 2).trans rfl, (blk_cell BK298.out 3).trans rfl, own_string (P := Try.prog) Try.underlying22 Try.underlying5 Try.underlying9 (Kd.own_of_R HO_9.out)⟩ (fun hHeld => ?_)
                  clear hK K
                  refine norm_ (a' := ?_) ?_ ?_
                  rotate_left
                  ·
                   show Act.put _ (some 93) _ = _
                   simp only [Act.put, List.setIfInBounds_toArray, List.set_cons_zero, List.set_cons_succ, i64_w, i32_w]
                   rfl
                  refine pure_ (i := 10) (N := some 94) (v := ?_) (a' := ?_) b8q11 rfl rfl (any_of HT_.out (by kernel_rfl)) (fun _ _ _ h => h) (Or.inl ⟨by rfl, ?_⟩) ?_ ?_; rotate_left; (focus (intro w'; go_simp; with_reducible rfl)); rotate_left; (focus (simp only [Act.put, List.setIfInBounds_toArray, List.set_cons_zero, List.set_cons_succ, i64_w, i32_w]; rfl))
                  refine done_ (done_of HT_.out (by kernel_rfl)) ?_
                  have hcz53_0 : w50.cell? ⟨gb298, 0, none⟩ = some (.int .i64 (wrap64 (t305))) := (blk_cell BK298.out 0).trans rfl
                  have hcz53_1 : w50.cell? ⟨gb298, 1, none⟩ = some (.slice Ao47 x299001_3.length co47) := (blk_cell BK298.out 1).trans rfl
                  have hcz53_2 : w50.cell? ⟨gb298, 2, none⟩ = some (.bool x299002_3) := (blk_cell BK298.out 2).trans rfl
                  have hcz53_3 : w50.cell? ⟨gb298, 3, none⟩ = some (.int .i64 x299003_3) := (blk_cell BK298.out 3).trans rfl
                  have hfz53_0 := blk_frozen BK298.out 0
                  have hfz53_1 := blk_frozen BK298.out 1
                  have hfz53_2 := blk_frozen BK298.out 2
                  have hfz53_3 := blk_frozen BK298.out 3
                  try go_wp2
                  try (go_step3; (try go_wp2))
                  try simp only [Exit.noGoto_ret]
                  refine bodyPost_ret (results_ct rfl _ _ gb298 33 #[.int .i64 (wrap64 (t305)), .slice Ao47 x299001_3.length co47, .bool true, .int .i64 t311] (0, 0) _ rfl (by (with_reducible repeat (first | refine blk_drewN ?_ _ | refine blk_drew ?_ | refine blk_alloc ?_ _)); refine blk_put (cs := #[.int .i64 (wrap64 (t305)), .slice Ao47 x299001_3.length co47, .bool true, .int .i64 t311]) ?_ 3 _ rfl; (with_reducible repeat (first | refine blk_drewN ?_ _ | refine blk_drew ?_ | refine blk_alloc ?_ _)); refine blk_put (cs := #[.int .i64 (wrap64 (t305)), .slice Ao47 x299001_3.length co47, .bool true, .int .i64 t311]) ?_ 2 _ rfl; (with_reducible repeat (first | refine blk_drewN ?_ _ | refine blk_drew ?_ | refine blk_alloc ?_ _)); refine blk_put (cs := #[.int .i64 (wrap64 (t305)), .slice Ao47 x299001_3.length co47, .bool true, .int .i64 t311]) ?_ 1 _ rfl; (with_reducible repeat (first | refine blk_drewN ?_ _ | refine blk_drew ?_ | refine blk_alloc ?_ _)); refine blk_put (cs := #[.int .i64 (wrap64 (t305)), .slice Ao47 x299001_3.length co47, .bool true, .int .i64 t311]) ?_ 0 _ rfl; (with_reducible repeat (first | refine blk_drewN ?_ _ | refine blk_drew ?_ | refine blk_alloc ?_ _)); refine blk_put (cs := #[.int .i64 (wrap64 (t305)), .slice Ao47 x299001_3.length co47, .bool true, .int .i64 x299003_3]) ?_ 3 _ rfl; (with_reducible repeat (first | refine blk_drewN ?_ _ | refine blk_drew ?_ | refine blk_alloc ?_ _)); refine blk_put (cs := #[.int .i64 (wrap64 (t305)), .slice Ao47 x299001_3.length co47, .bool x299002_3, .int .i64 x299003_3]) ?_ 2 _ rfl; (with_reducible repeat (first | refine blk_drewN ?_ _ | refine blk_drew ?_ | refine blk_alloc ?_ _)); exact BK298.out) Try.underlying33 rfl (by kernel_rfl)) rfl ?_
                  exact ⟨_, by first | rfl | (simp [errW_none, errW_some] <;> rfl) | (simp [*, errW_none, errW_some] <;> rfl), by (with_reducible repeat (first | apply Kd.R_alloc | apply Kd.R_drewN | apply Kd.R_drew)); exact Kd.R_mono (Kd.R_far (p := ⟨gb298, 3, none⟩) (Kd.R_far (p := ⟨gb298, 2, none⟩) (Kd.R_far (p := ⟨gb298, 1, none⟩) (Kd.R_far (p := ⟨gb298, 0, none⟩) (Kd.R_far (p := ⟨gb298, 3, none⟩) (Kd.R_far (p := ⟨gb298, 2, none⟩) (Kd.R_types HO_299001.out BK298.out (by decide)) (fun _ hk => hk.2) (.bool true)) (fun _ hk => hk.2) (.int .i64 t311)) (fun _ hk => hk.2) (.int .i64 (wrap64 (t305)))) (fun _ hk => hk.2) (.slice Ao47 x299001_3.length co47)) (fun _ hk => hk.2) (.bool true)) (fun _ hk => hk.2) (.int .i64 t311)) (fun _ hk => trivial), by repeat (first | (with_reducible first | exact HB.out | apply below_alloc | apply pw_below_drewN | apply below_drew1 | refine below_set ?_ GE298.out) | exact HB.out)⟩
                 ·
                  rw [if_neg c44] at H
                  have c44b0 : ((strOfNums t310).toList == (strOfNums t320).toList) = false := beq_eq_false_iff_ne.mpr c44
                  have c44b1 : ((strOfNums t310).toList != (strOfNums t320).toList) = true := bne_iff_ne.mpr c44
                  simp only [Option.some.injEq, Prod.mk.injEq] at H
                  obtain ⟨rfl, rfl, rfl, rfl, rfl⟩ := H
                  obtain ⟨Ao54, co54, eo54⟩ := Kd.R_slice HO_9.out
                  subst eo54
                  have p315 : 0 ≤ (0 : Int) := (by omega)
                  have q315 : 0 < (t310.length : Int) := of_decide_eq_true (by first | (with_reducible assumption) | assumption)
                  obtain ⟨ad315, e315, hx315_0⟩ := Kd.at_int (Kd.R_reads' HO_9.out).2.2 0 p315 q315
                  cases e315
                  have qi315 : (0 < t310.length) = True := eq_true (by omega)
                  (try rw [show ((0 : Int)).toNat = 0 from rfl] at hx315_0)
                  (try rw [Addr.add_zero'] at hx315_0)
                  replace p315 := eq_true p315
                  replace q315 := eq_true q315
                  try go_wp2
                  have n0_ := Aside0.mk (Kd.R_drew HO_9.out)
                  have n1_ := Aside0.mk (Kd.R_drew HO_299001.out)
                  have n2_ := Aside0.mk (blk_drew BK298.out)
                  have n3_ := Aside0.mk (below_drew1 HB.out)
                  clear HO_9
                  clear HO_299001
                  clear BK298
                  clear HB
                  have HO_9 := n0_
                  have HO_299001 := n1_
                  have BK298 := n2_
                  have HB := n3_
                  clear n0_ n1_ n2_ n3_
                  obtain ⟨Ao56, co56, eo56⟩ := Kd.R_slice HO_299001.out
                  (first | subst eo56 | (injection eo56 with f1_ f2_ f3_; have f4_ := f1_.symm; have f5_ := f3_.symm; clear f1_ f2_ f3_; subst f4_; subst f5_))
                  obtain ⟨i057, hi057, _, hsz57, _⟩ := info_parts info5
                  obtain ⟨hcut57, hA57, hC57⟩ := print_take_of (P := Try.prog) (Value.int .u8) 0 22 5 .i64 Try.underlying22 hi057 hsz57 A0 c0 l0 x5_3 (of_decide_eq_true (by first | (with_reducible assumption) | assumption)) (of_decide_eq_true (by first | (with_reducible assumption) | assumption)) HC0.out
                  have HR319 := Aside0.mk (Kd.C_of_reads (h1 := fun _ => rfl) (hA57 _ (Kd.reads_of_C HR0.out)))
                  have HC319 := Aside0.mk hC57
                  clear hA57 hC57 hi057 hsz57
                  have hcv58 := own_string (P := Try.prog) Try.underlying22 Try.underlying5 Try.underlying9 (Kd.own_of_R HO_9.out)
                  refine start_ (n := 11) (S := fun w' => w'.cell? ⟨gb298, 0, none⟩ = some (.int .i64 (wrap64 (t305))) ∧ w'.cell? ⟨gb298, 1, none⟩ = some (.slice Ao56 x299001_3.length co56) ∧ w'.cell? ⟨gb298, 2, none⟩ = some (.bool x299002_3) ∧ w'.cell? ⟨gb298, 3, none⟩ = some (.int .i64 x299003_3) ∧ (convert 22 9 (.slice (some ad315) t310.length co54)).run Try.prog w' = .ok (.string (strOfNums t310)) w') (ds := []) b8q0 (by kernel_rfl) rfl rfl ⟨(blk_cell BK298.out 0).trans rfl, (blk_cell BK298.out 1).trans rfl, (blk_cell BK298.out 2).trans rfl, (blk_cell BK298.out 3).trans rfl, own_string (P := Try.prog) Try.underlying22 Try.underlying5 Try.underlying9 (Kd.own_of_R HO_9.out)⟩ (fun hHeld => ?_); refine with_tabW shard_Scan.tab15 shard_Scan.bits15 (fun HT_ HW_ => ?_)
                  generalize wc.drew = w55 at HO_9 HO_299001 BK298 HB HR319 hHeld ⊢
                  refine pure_ (i := 0) (N := some 84) (v := ?_) (a' := ?_) b8q1 rfl rfl (any_of HT_.out (by kernel_rfl)) (fun _ _ _ h => h) (Or.inl ⟨by rfl, ?_⟩) ?_ ?_; rotate_left; (focus (intro w'; go_simp; with_reducible rfl)); rotate_left; (focus (simp only [Act.put, List.setIfInBounds_toArray, List.set_cons_zero, List.set_cons_succ, i64_w, i32_w]; rfl))
                  refine take_ (i := 1) (N := some 85) (v := ?_) (a' := ?_) b8q2 rfl rfl (take_ofW HT_.out HW_.out (by kernel_rfl)) (fun _ _ _ h => h) (Or.inl ⟨by rfl, ?_⟩) hHeld ?_ ?_
                  rotate_left
                  ·
                   rintro w' ⟨s0, s1, s2, s3, s4⟩
                   go_simp
                   with_reducible rfl
                  rotate_left
                  ·
                   simp only [Act.put, List.setIfInBounds_toArray, List.set_cons_zero, List.set_cons_succ, i64_w, i32_w]
                   rfl
                  refine pure_ (i := 2) (N := some 86) (v := ?_) (a' := ?_) b8q3 rfl rfl (any_of HT_.out (by kernel_rfl)) (fun _ _ _ h => h) (Or.inl ⟨by rfl, ?_⟩) ?_ ?_; rotate_left; (focus (intro w'; go_simp; with_reducible rfl)); rotate_left; (focus (simp only [Act.put, List.setIfInBounds_toArray, List.set_cons_zero, List.set_cons_succ, i64_w, i32_w]; rfl))
                  refine pure_ (i := 5) (N := some 89) (v := ?_) (a' := ?_) b8q4 rfl rfl (any_of HT_.out (by kernel_rfl)) (fun _ _ _ h => h) (Or.inl ⟨by rfl, ?_⟩) ?_ ?_; rotate_left; (focus (intro w'; go_simp; with_reducible rfl)); rotate_left; (focus (simp only [Act.put, List.setIfInBounds_toArray, List.set_cons_zero, List.set_cons_succ, i64_w, i32_w]; rfl))
                  refine pure_ (i := 6) (N := some 90) (v := ?_) (a' := ?_) b8q5 rfl rfl (any_of HT_.out (by kernel_rfl)) (fun _ _ _ h => h) (Or.inl ⟨by rfl, ?_⟩) ?_ ?_; rotate_left; (focus (intro w'; go_simp; with_reducible rfl)); rotate_left; (focus (simp only [Act.put, List.setIfInBounds_toArray, List.set_cons_zero, List.set_cons_succ, i64_w, i32_w]; rfl))
                  refine pure_ (i := 7) (N := some 91) (v := ?_) (a' := ?_) b8q6 rfl rfl (any_of HT_.out (by kernel_rfl)) (fun _ _ _ h => h) (Or.inl ⟨by rfl, ?_⟩) ?_ ?_; rotate_left; (focus (intro w'; go_simp; with_reducible rfl)); rotate_left; (focus (simp only [Act.put, List.setIfInBounds_toArray, List.set_cons_zero, List.set_cons_succ, i64_w, i32_w]; rfl))
                  refine take_ (i := 3) (N := some 87) (v := ?_) (a' := ?_) b8q7 rfl rfl (take_ofW HT_.out HW_.out (by kernel_rfl)) (fun _ _ _ h => h) (Or.inl ⟨by rfl, ?_⟩) hHeld ?_ ?_
                  rotate_left
                  ·
                   rintro w' ⟨s0, s1, s2, s3, s4⟩
                   go_simp
                   with_reducible rfl
                  rotate_left
                  ·
                   simp only [Act.put, List.setIfInBounds_toArray, List.set_cons_zero, List.set_cons_succ, i64_w, i32_w]
                   rfl
                  refine pure_ (i := 4) (N := some 88) (v := ?_) (a' := ?_) b8q8 rfl rfl (any_of HT_.out (by kernel_rfl)) (fun _ _ _ h => h) (Or.inl ⟨by rfl, ?_⟩) ?_ ?_; rotate_left; (focus (intro w'; go_simp; with_reducible rfl)); rotate_left; (focus (simp only [Act.put, List.setIfInBounds_toArray, List.set_cons_zero, List.set_cons_succ, i64_w, i32_w]; rfl))
                  refine one_ (i := 8) (N := some 92) b8q9 rfl rfl (one_of HT_.out (by kernel_rfl)) (by decide) (fun K hK => ?_)
                  refine goes_ Try.func39 (by kernel_rfl) rfl #[.int .i64 (x299001_3.length : Int), .slice A0 (l0.take (x5_3 : Int).toNat).length c0] (by rfl) rfl rfl (by (try simp only [List.map_toArray, List.map_cons, List.map_nil]); first | done | (rw [show (l0.take (x5_3 : Int).toNat).length = x5_3.toNat from (by rw [List.length_take]; have h_ : (x5_3 : Int) ≤ (l0.length : Int) := of_decide_eq_true (by first | (with_reducible assumption) | assumption); omega)] <;> rfl) | rfl | (simp only [List.length_drop, List.length_take]; rfl)) ?_
                  with_reducible refine (shard_foot.calls kj24 (x299001_3.length : Int) _ _ (l0.take (x5_3 : Int).toNat) t320 _ ?side1 ?side2 A43.out).mono ?_
                  (case side1 => repeat (first | exact (Kd.C_below HR319.out HB.out) | (with_reducible refine Kd.C_alloc ?_ _) | (with_reducible refine Kd.C_drewN ?_ _) | (with_reducible refine Kd.C_drew ?_)))
                  (case side2 => exact HC319.out)
                  rintro e w59 ⟨v321, rfl, ho0, hb⟩
                  refine ⟨_, rfl, ?_⟩
                  have n0_ := Aside0.mk (Kd.R_elder' (by (with_reducible repeat (first | apply Kd.R_alloc | apply Kd.R_drewN | apply Kd.R_drew)); exact HO_9.out) (Kd.R_base ho0) hb)
                  have n1_ := Aside0.mk (Kd.R_below (by (with_reducible repeat (first | apply Kd.R_alloc | apply Kd.R_drewN | apply Kd.R_drew)); exact HO_299001.out) hb)
                  have n2_ := Aside0.mk (Kd.R_lower (Kd.R_new' ho0 (Kd.R_lt (by (with_reducible repeat (first | apply Kd.R_alloc | apply Kd.R_drewN | apply Kd.R_drew)); exact HO_9.out))) (below_size (by repeat (first | (with_reducible first | exact HB.out | apply below_alloc | apply pw_below_drewN | apply below_drew1 | refine below_set ?_ GE298.out) | exact HB.out))))
                  have n3_ := Aside0.mk (blk_below (g := gb298) (o := .cells #[.int .i64 (wrap64 (t305)), .slice Ao56 x299001_3.length co56, .bool x299002_3, .int .i64 x299003_3] 33 (0, 0)) (by (with_reducible repeat (first | refine blk_drewN ?_ _ | refine blk_drew ?_ | refine blk_alloc ?_ _)); exact BK298.out) hb)
                  have n4_ := Aside0.mk (below_step (by repeat (first | (with_reducible first | exact HB.out | apply below_alloc | apply pw_below_drewN | apply below_drew1 | refine below_set ?_ GE298.out) | exact HB.out)) hb)
                  clear HO_9
                  clear HO_299001
                  clear BK298
                  clear HB
                  have HO_9 := n0_
                  have HO_299001 := n1_
                  have HO322 := n2_
                  have BK298 := n3_
                  have HB := n4_
                  clear n0_ n1_ n2_ n3_ n4_
                  (try clear hb)
                  (try clear hb2)
                  (try clear hk)
                  (try clear hi)
                  (try clear ho0)
                  refine hK.out _ _ ⟨(blk_cell BK298.out 0).trans rfl, (blk_cell BK298.out 1).trans rfl, (blk_cell BK298.out 2).trans rfl, (blk_cell BK298.out 3).trans rfl, own_string (P := Try.prog) Try.underlying22 Try.underlying5 Try.underlying9 (Kd.own_of_R HO_9.out)⟩ (fun hHeld => ?_)
                  clear hK K
                  refine norm_ (a' := ?_) ?_ ?_
                  rotate_left
                  ·
                   show Act.put _ (some 92) _ = _
                   simp only [Act.put, List.setIfInBounds_toArray, List.set_cons_zero, List.set_cons_succ, i64_w, i32_w]
                   rfl
                  refine one_ (i := 9) (N := some 93) b8q10 rfl rfl (one_of HT_.out (by kernel_rfl)) (by decide) (fun K hK => ?_)
                  have hcv60 := own_string (P := Try.prog) Try.underlying22 Try.underlying5 Try.underlying9 (Kd.own_of_R HO322.out)
                  refine value_ (w1 := ?_) (v := ?_) (by rfl) rfl ?_ ?_
                  rotate_left 2
                  ·
                   go_simp
                   constructor
                   · rfl
                   · rfl
                  clear hcv60
                  refine hK.out _ _ ⟨(blk_cell BK298.out 0).trans rfl, (blk_cell BK298.out 1).trans rfl, (blk_cell BK298.out 2).trans rfl, (blk_cell BK298.out 3).trans rfl, own_string (P := Try.prog) Try.underlying22 Try.underlying5 Try.underlying9 (Kd.own_of_R HO_9.out)⟩ (fun hHeld => ?_)
                  clear hK K
                  refine norm_ (a' := ?_) ?_ ?_
                  rotate_left
                  ·
                   show Act.put _ (some 93) _ = _
                   simp only [Act.put, List.setIfInBounds_toArray, List.set_cons_zero, List.set_cons_succ, i64_w, i32_w]
                   rfl
                  refine pure_ (i := 10) (N := some 94) (v := ?_) (a' := ?_) b8q11 rfl rfl (any_of HT_.out (by kernel_rfl)) (fun _ _ _ h => h) (Or.inl ⟨by rfl, ?_⟩) ?_ ?_; rotate_left; (focus (intro w'; go_simp; with_reducible rfl)); rotate_left; (focus (simp only [Act.put, List.setIfInBounds_toArray, List.set_cons_zero, List.set_cons_succ, i64_w, i32_w]; rfl))
                  refine done_ (done_of HT_.out (by kernel_rfl)) ?_
                  have hcz62_0 : w59.cell? ⟨gb298, 0, none⟩ = some (.int .i64 (wrap64 (t305))) := (blk_cell BK298.out 0).trans rfl
                  have hcz62_1 : w59.cell? ⟨gb298, 1, none⟩ = some (.slice Ao56 x299001_3.length co56) := (blk_cell BK298.out 1).trans rfl
                  have hcz62_2 : w59.cell? ⟨gb298, 2, none⟩ = some (.bool x299002_3) := (blk_cell BK298.out 2).trans rfl
                  have hcz62_3 : w59.cell? ⟨gb298, 3, none⟩ = some (.int .i64 x299003_3) := (blk_cell BK298.out 3).trans rfl
                  have hfz62_0 := blk_frozen BK298.out 0
                  have hfz62_1 := blk_frozen BK298.out 1
                  have hfz62_2 := blk_frozen BK298.out 2
                  have hfz62_3 := blk_frozen BK298.out 3
                  try go_wp2
                  try (go_step3; (try go_wp2))
                  try simp only [Exit.noGoto_ret]
                  refine bodyPost_ret (results_ct rfl _ _ gb298 33 #[.int .i64 (wrap64 (t305)), .slice Ao56 x299001_3.length co56, .bool x299002_3, .int .i64 x299003_3] (0, 0) _ rfl (by (with_reducible repeat (first | refine blk_drewN ?_ _ | refine blk_drew ?_ | refine blk_alloc ?_ _)); refine blk_put (cs := #[.int .i64 (wrap64 (t305)), .slice Ao56 x299001_3.length co56, .bool x299002_3, .int .i64 x299003_3]) ?_ 3 _ rfl; (with_reducible repeat (first | refine blk_drewN ?_ _ | refine blk_drew ?_ | refine blk_alloc ?_ _)); refine blk_put (cs := #[.int .i64 (wrap64 (t305)), .slice Ao56 x299001_3.length co56, .bool x299002_3, .int .i64 x299003_3]) ?_ 2 _ rfl; (with_reducible repeat (first | refine blk_drewN ?_ _ | refine blk_drew ?_ | refine blk_alloc ?_ _)); refine blk_put (cs := #[.int .i64 (wrap64 (t305)), .slice Ao56 x299001_3.length co56, .bool x299002_3, .int .i64 x299003_3]) ?_ 1 _ rfl; (with_reducible repeat (first | refine blk_drewN ?_ _ | refine blk_drew ?_ | refine blk_alloc ?_ _)); refine blk_put (cs := #[.int .i64 (wrap64 (t305)), .slice Ao56 x299001_3.length co56, .bool x299002_3, .int .i64 x299003_3]) ?_ 0 _ rfl; (with_reducible repeat (first | refine blk_drewN ?_ _ | refine blk_drew ?_ | refine blk_alloc ?_ _)); exact BK298.out) Try.underlying33 rfl (by kernel_rfl)) rfl ?_
                  exact ⟨_, by first | rfl | (simp [errW_none, errW_some] <;> rfl) | (simp [*, errW_none, errW_some] <;> rfl), by (with_reducible repeat (first | apply Kd.R_alloc | apply Kd.R_drewN | apply Kd.R_drew)); exact Kd.R_mono (Kd.R_far (p := ⟨gb298, 3, none⟩) (Kd.R_far (p := ⟨gb298, 2, none⟩) (Kd.R_far (p := ⟨gb298, 1, none⟩) (Kd.R_far (p := ⟨gb298, 0, none⟩) (Kd.R_types HO_299001.out BK298.out (by decide)) (fun _ hk => hk.2) (.int .i64 (wrap64 (t305)))) (fun _ hk => hk.2) (.slice Ao56 x299001_3.length co56)) (fun _ hk => hk.2) (.bool x299002_3)) (fun _ hk => hk.2) (.int .i64 x299003_3)) (fun _ hk => trivial), by repeat (first | (with_reducible first | exact HB.out | apply below_alloc | apply pw_below_drewN | apply below_drew1 | refine below_set ?_ GE298.out) | exact HB.out)⟩
                ·
                 rw [if_neg c42] at H
                 exact absurd H (by simp)
               ·
                rw [if_neg c41] at H
                exact absurd H (by simp)
              ·
               rw [if_neg c40] at H
               have c40b0 : ((rd t310 0) == 102) = false := beq_eq_false_iff_ne.mpr c40
               have c40b1 : ((rd t310 0) != 102) = true := bne_iff_ne.mpr c40
               simp only [Option.some.injEq, Prod.mk.injEq] at H
               obtain ⟨rfl, rfl, rfl, rfl, rfl⟩ := H
               obtain ⟨Ao63, co63, eo63⟩ := Kd.R_slice HO_9.out
               subst eo63
               have p315 : 0 ≤ (0 : Int) := (by omega)
               have q315 : 0 < (t310.length : Int) := of_decide_eq_true (by first | (with_reducible assumption) | assumption)
               obtain ⟨ad315, e315, hx315_0⟩ := Kd.at_int (Kd.R_reads' HO_9.out).2.2 0 p315 q315
               cases e315
               have qi315 : (0 < t310.length) = True := eq_true (by omega)
               (try rw [show ((0 : Int)).toNat = 0 from rfl] at hx315_0)
               (try rw [Addr.add_zero'] at hx315_0)
               replace p315 := eq_true p315
               replace q315 := eq_true q315
               have hcz64_0 : wc.cell? ⟨gb298, 0, none⟩ = some (.int .i64 (wrap64 (t305))) := (blk_cell BK298.out 0).trans rfl
               have hcz64_1 : wc.cell? ⟨gb298, 1, none⟩ = some (u299001) := (blk_cell BK298.out 1).trans rfl
               have hcz64_2 : wc.cell? ⟨gb298, 2, none⟩ = some (.bool x299002_3) := (blk_cell BK298.out 2).trans rfl
               have hcz64_3 : wc.cell? ⟨gb298, 3, none⟩ = some (.int .i64 x299003_3) := (blk_cell BK298.out 3).trans rfl
               have hfz64_0 := blk_frozen BK298.out 0
               have hfz64_1 := blk_frozen BK298.out 1
               have hfz64_2 := blk_frozen BK298.out 2
               have hfz64_3 := blk_frozen BK298.out 3
               obtain ⟨Ao65, co65, eo65⟩ := Kd.R_slice HO_299001.out
               subst eo65
               go_wp2
               try (go_step3; (try go_wp2))
               try simp only [Exit.noGoto_ret]
               refine bodyPost_ret (results_ct rfl _ _ gb298 33 #[.int .i64 (wrap64 (t305)), .slice Ao65 x299001_3.length co65, .bool x299002_3, .int .i64 x299003_3] (0, 0) _ rfl (by (with_reducible repeat (first | refine blk_drewN ?_ _ | refine blk_drew ?_ | refine blk_alloc ?_ _)); refine blk_put (cs := #[.int .i64 (wrap64 (t305)), .slice Ao65 x299001_3.length co65, .bool x299002_3, .int .i64 x299003_3]) ?_ 3 _ rfl; (with_reducible repeat (first | refine blk_drewN ?_ _ | refine blk_drew ?_ | refine blk_alloc ?_ _)); refine blk_put (cs := #[.int .i64 (wrap64 (t305)), .slice Ao65 x299001_3.length co65, .bool x299002_3, .int .i64 x299003_3]) ?_ 2 _ rfl; (with_reducible repeat (first | refine blk_drewN ?_ _ | refine blk_drew ?_ | refine blk_alloc ?_ _)); refine blk_put (cs := #[.int .i64 (wrap64 (t305)), .slice Ao65 x299001_3.length co65, .bool x299002_3, .int .i64 x299003_3]) ?_ 1 _ rfl; (with_reducible repeat (first | refine blk_drewN ?_ _ | refine blk_drew ?_ | refine blk_alloc ?_ _)); refine blk_put (cs := #[.int .i64 (wrap64 (t305)), .slice Ao65 x299001_3.length co65, .bool x299002_3, .int .i64 x299003_3]) ?_ 0 _ rfl; (with_reducible repeat (first | refine blk_drewN ?_ _ | refine blk_drew ?_ | refine blk_alloc ?_ _)); exact BK298.out) Try.underlying33 rfl (by kernel_rfl)) rfl ?_
               exact ⟨_, by first | rfl | (simp [errW_none, errW_some] <;> rfl) | (simp [*, errW_none, errW_some] <;> rfl), by (with_reducible repeat (first | apply Kd.R_alloc | apply Kd.R_drewN | apply Kd.R_drew)); exact Kd.R_mono (Kd.R_far (p := ⟨gb298, 3, none⟩) (Kd.R_far (p := ⟨gb298, 2, none⟩) (Kd.R_far (p := ⟨gb298, 1, none⟩) (Kd.R_far (p := ⟨gb298, 0, none⟩) (Kd.R_types HO_299001.out BK298.out (by decide)) (fun _ hk => hk.2) (.int .i64 (wrap64 (t305)))) (fun _ hk => hk.2) (.slice Ao65 x299001_3.length co65)) (fun _ hk => hk.2) (.bool x299002_3)) (fun _ hk => hk.2) (.int .i64 x299003_3)) (fun _ hk => trivial), by repeat (first | (with_reducible first | exact HB.out | apply below_alloc | apply pw_below_drewN | apply below_drew1 | refine below_set ?_ GE298.out) | exact HB.out)⟩
            ·
             rw [if_neg c32] at H
             exact absurd H (by simp)

end Go.Proofs.Ytjefgdggjchhbaa.PAll
