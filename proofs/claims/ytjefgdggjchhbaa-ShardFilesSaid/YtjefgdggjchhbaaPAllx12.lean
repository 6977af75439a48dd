-- PRINTED by print.py (a twelfth state) out of the translation. Not trusted: Lean checks it.
import Derived.Test.YtjefgdggjchhbaaPAllx0
import Derived.Test.YtjefgdggjchhbaaPAllx4
import Derived.Test.YtjefgdggjchhbaaPAllx10
import Derived.Test.YtjefgdggjchhbaaPAllx11
namespace Go.Proofs.Ytjefgdggjchhbaa.PAll
open Go.RowKit Go.Proofs.YtjefgdggjchhbaaVW.PrintWords Go.Proofs.YtjefgdggjchhbaaVW.PrintLast Go.Proofs.YtjefgdggjchhbaaVW.PrintMore
attribute [local go_sem] max2_int min2_int max_two min_two max_three min_three max_four min_four   -- for this text's walks alone
set_option linter.unusedVariables false
set_option linter.unusedSimpArgs false

abbrev b12q0 : Array Bool := #[false, false, false, false, false, false, false, false, false, false, false, false, false, false, false, false]
abbrev b12q1 : Array Bool := #[true, false, false, false, false, false, false, false, false, false, false, false, false, false, false, false]
abbrev b12q2 : Array Bool := #[true, true, false, false, false, false, false, false, false, false, false, false, false, false, false, false]
abbrev b12q3 : Array Bool := #[true, true, true, false, false, false, false, false, false, false, false, false, false, false, false, false]
abbrev b12q4 : Array Bool := #[true, true, true, true, false, false, false, false, false, false, false, false, false, false, false, false]
abbrev b12q5 : Array Bool := #[true, true, true, true, true, false, false, false, false, false, false, false, false, false, false, false]
abbrev b12q6 : Array Bool := #[true, true, true, true, true, true, false, false, false, false, false, false, false, false, false, false]
abbrev b12q7 : Array Bool := #[true, true, true, true, true, true, true, false, false, false, false, false, false, false, false, false]
abbrev b12q8 : Array Bool := #[true, true, true, true, true, true, true, false, false, true, false, false, false, false, false, false]
abbrev b12q9 : Array Bool := #[true, true, true, true, true, true, true, false, false, true, true, false, false, false, false, false]
abbrev b12q10 : Array Bool := #[true, true, true, true, true, true, true, true, false, true, true, false, false, false, false, false]
abbrev b12q11 : Array Bool := #[true, true, true, true, true, true, true, true, true, true, true, false, false, false, false, false]
abbrev b12q12 : Array Bool := #[true, true, true, true, true, true, true, true, true, true, true, true, false, false, false, false]
abbrev b12q13 : Array Bool := #[true, true, true, true, true, true, true, true, true, true, true, true, true, false, false, false]
abbrev b12q14 : Array Bool := #[true, true, true, true, true, true, true, true, true, true, true, true, true, true, false, false]
abbrev b12q15 : Array Bool := #[true, true, true, true, true, true, true, true, true, true, true, true, true, true, true, false]
abbrev b12q16 : Array Bool := #[true, true, true, true, true, true, true, true, true, true, true, true, true, true, true, true]
abbrev b12q17 : Array Bool := #[true, true, true, true, true, true, true, true, false, false, false, false, false, false, false, false]
abbrev b12q18 : Array Bool := #[true, true, true, true, true, true, true, true, true, false, false, false, false, false, false, false]
abbrev b12q19 : Array Bool := #[true, true, true, true, true, true, true, true, true, true, false, false, false, false, false, false]
/-! ### stookref21_Scan: function 17 -/
mutual
def stookref21_Scan.j0 : Nat → List Int → List Int → Int → Bool → Option (Int × List Int × Bool × Int × Int)
 | 0, _, _, _, _ => none
 | k + 1, x0, x4, x5, x31 => if x31 = true then (some (0, ([] : List Int), false, 0, 5)) else ((stookref01_Get.f k x4 1).bind fun bt437 => (if bt437.2.2 = 0 then (if bt437.2.1 = (x4.length : Int) then (stookref21_Scan.j1 k x0 x5 bt437.1 (decide (bt437.1 > 2147483647))) else (stookref21_Scan.j1 k x0 x5 bt437.1 true)) else (stookref21_Scan.j1 k x0 x5 bt437.1 true)))
def stookref21_Scan.j1 : Nat → List Int → Int → Int → Bool → Option (Int × List Int × Bool × Int × Int)
 | 0, _, _, _, _ => none
 | k + 1, x0, x5, x7, x50 => if x50 = true then (some (0, ([] : List Int), false, 0, 5)) else (stookref21_Scan.l0 k x0 (wrap64 (x7)) ([] : List Int) false x5)
def stookref21_Scan.l0 : Nat → List Int → Int → List Int → Bool → Int → Option (Int × List Int × Bool × Int × Int)
 | 0, _, _, _, _, _ => none
 | k + 1, x0, x441000, x441001, x441002, x441003 => (stookref03_Get.f k x0 x441003).bind fun bt441 => (if bt441.2.2 = 0 then (stookref21_Scan.j3 k x0 bt441.1 bt441.2.1 ((bt441.1.length : Int) == 0) x441000 x441001 x441002 x441003) else (stookref21_Scan.j3 k x0 bt441.1 bt441.2.1 true x441000 x441001 x441002 x441003))
def stookref21_Scan.j3 : Nat → List Int → List Int → Int → Bool → Int → List Int → Bool → Int → Option (Int × List Int × Bool × Int × Int)
 | 0, _, _, _, _, _, _, _, _ => none
 | k + 1, x0, x10, x11, x70, x441000, x441001, x441002, x441003 => if x70 = true then (some (x441000, x441001, x441002, x441003, 0)) else (if 0 < (x10.length : Int) then (if (rd x10 0) = 102 then (if 0 ≤ x441003 then (if x441003 ≤ (x0.length : Int) then ((stookref21_foot.f k (x441001.length : Int) (x0.take (x441003 : Int).toNat)).bind fun t448 => ((stookref00_Same.f k x10 t448).bind fun t451 => (stookref21_Scan.j4 k x0 x10 x11 t451 x441000 x441001 x441002 x441003))) else (none)) else (none)) else (stookref21_Scan.j4 k x0 x10 x11 false x441000 x441001 x441002 x441003)) else (none))
def stookref21_Scan.j4 : Nat → List Int → List Int → Int → Bool → Int → List Int → Bool → Int → Option (Int × List Int × Bool × Int × Int)
 | 0, _, _, _, _, _, _, _, _ => none
 | k + 1, x0, x10, x11, x87, x441000, x441001, x441002, x441003 => if x87 = true then (some (x441000, x441001, true, x11, 0)) else (if 0 < (x10.length : Int) then (if (rd x10 0) = 114 then (if x441001.length < 17592186044416 then (stookref21_Scan.l0 k x0 x441000 (x441001 ++ [x441003]) x441002 x11) else (none)) else (some (x441000, x441001, x441002, x441003, 0))) else (none))
end
def stookref21_Scan.f (k : Nat) (l0 : List Int) : Option (Int × List Int × Bool × Int × Int) := (stookref03_Get.f k l0 0).bind fun bt431 => (if bt431.2.2 = 0 then (if (bt431.1.length : Int) = 0 then (stookref21_Scan.j0 k l0 bt431.1 bt431.2.1 true) else (if 0 < (bt431.1.length : Int) then (stookref21_Scan.j0 k l0 bt431.1 bt431.2.1 ((rd bt431.1 0) != 104)) else (none))) else (stookref21_Scan.j0 k l0 bt431.1 bt431.2.1 true))
theorem stookref21_Scan.mono_l : ∀ k, (∀ y0 y1 y2 y3, LeO (stookref21_Scan.j0 k y0 y1 y2 y3) (stookref21_Scan.j0 (k + 1) y0 y1 y2 y3)) ∧ (∀ y0 y1 y2 y3, LeO (stookref21_Scan.j1 k y0 y1 y2 y3) (stookref21_Scan.j1 (k + 1) y0 y1 y2 y3)) ∧ (∀ y0 y1 y2 y3 y4, LeO (stookref21_Scan.l0 k y0 y1 y2 y3 y4) (stookref21_Scan.l0 (k + 1) y0 y1 y2 y3 y4)) ∧ (∀ y0 y1 y2 y3 y4 y5 y6 y7, LeO (stookref21_Scan.j3 k y0 y1 y2 y3 y4 y5 y6 y7) (stookref21_Scan.j3 (k + 1) y0 y1 y2 y3 y4 y5 y6 y7)) ∧ (∀ y0 y1 y2 y3 y4 y5 y6 y7, LeO (stookref21_Scan.j4 k y0 y1 y2 y3 y4 y5 y6 y7) (stookref21_Scan.j4 (k + 1) y0 y1 y2 y3 y4 y5 y6 y7))
 | 0 => ⟨fun _ _ _ _ r h => by simp [stookref21_Scan.j0] at h, fun _ _ _ _ r h => by simp [stookref21_Scan.j1] at h, fun _ _ _ _ _ r h => by simp [stookref21_Scan.l0] at h, fun _ _ _ _ _ _ _ _ r h => by simp [stookref21_Scan.j3] at h, fun _ _ _ _ _ _ _ _ r h => by simp [stookref21_Scan.j4] at h⟩
 | k + 1 => by
  obtain ⟨ih0, ih1, ih2, ih3, ih4⟩ := stookref21_Scan.mono_l k
  refine ⟨?_, ?_, ?_, ?_, ?_⟩
  ·
   intro y0 y1 y2 y3
   unfold stookref21_Scan.j0
   repeat' first
   | (with_reducible exact ih0 _ _ _ _)
   | (with_reducible exact ih1 _ _ _ _)
   | (with_reducible exact ih2 _ _ _ _ _)
   | (with_reducible exact ih3 _ _ _ _ _ _ _ _)
   | (with_reducible exact ih4 _ _ _ _ _ _ _ _)
   | (with_reducible exact stookref00_Same.mono _ _ _)
   | (with_reducible exact stookref01_Get.mono _ _ _)
   | (with_reducible exact stookref03_Get.mono _ _ _)
   | (with_reducible exact stookref21_foot.mono _ _ _)
   | (with_reducible exact LeO.refl _)
   | (with_reducible exact LeO.none _)
   | (with_reducible refine LeO.ite ?_ ?_)
   | (with_reducible refine LeO.bind ?_ (fun _ => ?_))
   | exact ih0 _ _ _ _
   | exact ih1 _ _ _ _
   | exact ih2 _ _ _ _ _
   | exact ih3 _ _ _ _ _ _ _ _
   | exact ih4 _ _ _ _ _ _ _ _
   | exact stookref00_Same.mono _ _ _
   | exact stookref01_Get.mono _ _ _
   | exact stookref03_Get.mono _ _ _
   | exact stookref21_foot.mono _ _ _
   | exact LeO.none _
   | refine LeO.ite ?_ ?_
   | refine LeO.bind ?_ (fun _ => ?_)
  ·
   intro y0 y1 y2 y3
   unfold stookref21_Scan.j1
   repeat' first
   | (with_reducible exact ih0 _ _ _ _)
   | (with_reducible exact ih1 _ _ _ _)
   | (with_reducible exact ih2 _ _ _ _ _)
   | (with_reducible exact ih3 _ _ _ _ _ _ _ _)
   | (with_reducible exact ih4 _ _ _ _ _ _ _ _)
   | (with_reducible exact stookref00_Same.mono _ _ _)
   | (with_reducible exact stookref01_Get.mono _ _ _)
   | (with_reducible exact stookref03_Get.mono _ _ _)
   | (with_reducible exact stookref21_foot.mono _ _ _)
   | (with_reducible exact LeO.refl _)
   | (with_reducible exact LeO.none _)
   | (with_reducible refine LeO.ite ?_ ?_)
   | (with_reducible refine LeO.bind ?_ (fun _ => ?_))
   | exact ih0 _ _ _ _
   | exact ih1 _ _ _ _
   | exact ih2 _ _ _ _ _
   | exact ih3 _ _ _ _ _ _ _ _
   | exact ih4 _ _ _ _ _ _ _ _
   | exact stookref00_Same.mono _ _ _
   | exact stookref01_Get.mono _ _ _
   | exact stookref03_Get.mono _ _ _
   | exact stookref21_foot.mono _ _ _
   | exact LeO.none _
   | refine LeO.ite ?_ ?_
   | refine LeO.bind ?_ (fun _ => ?_)
  ·
   intro y0 y1 y2 y3 y4
   unfold stookref21_Scan.l0
   repeat' first
   | (with_reducible exact ih0 _ _ _ _)
   | (with_reducible exact ih1 _ _ _ _)
   | (with_reducible exact ih2 _ _ _ _ _)
   | (with_reducible exact ih3 _ _ _ _ _ _ _ _)
   | (with_reducible exact ih4 _ _ _ _ _ _ _ _)
   | (with_reducible exact stookref00_Same.mono _ _ _)
   | (with_reducible exact stookref01_Get.mono _ _ _)
   | (with_reducible exact stookref03_Get.mono _ _ _)
   | (with_reducible exact stookref21_foot.mono _ _ _)
   | (with_reducible exact LeO.refl _)
   | (with_reducible exact LeO.none _)
   | (with_reducible refine LeO.ite ?_ ?_)
   | (with_reducible refine LeO.bind ?_ (fun _ => ?_))
   | exact ih0 _ _ _ _
   | exact ih1 _ _ _ _
   | exact ih2 _ _ _ _ _
   | exact ih3 _ _ _ _ _ _ _ _
   | exact ih4 _ _ _ _ _ _ _ _
   | exact stookref00_Same.mono _ _ _
   | exact stookref01_Get.mono _ _ _
   | exact stookref03_Get.mono _ _ _
   | exact stookref21_foot.mono _ _ _
   | exact LeO.none _
   | refine LeO.ite ?_ ?_
   | refine LeO.bind ?_ (fun _ => ?_)
  ·
   intro y0 y1 y2 y3 y4 y5 y6 y7
   unfold stookref21_Scan.j3
   repeat' first
   | (with_reducible exact ih0 _ _ _ _)
   | (with_reducible exact ih1 _ _ _ _)
   | (with_reducible exact ih2 _ _ _ _ _)
   | (with_reducible exact ih3 _ _ _ _ _ _ _ _)
   | (with_reducible exact ih4 _ _ _ _ _ _ _ _)
   | (with_reducible exact stookref00_Same.mono _ _ _)
   | (with_reducible exact stookref01_Get.mono _ _ _)
   | (with_reducible exact stookref03_Get.mono _ _ _)
   | (with_reducible exact stookref21_foot.mono _ _ _)
   | (with_reducible exact LeO.refl _)
   | (with_reducible exact LeO.none _)
   | (with_reducible refine LeO.ite ?_ ?_)
   | (with_reducible refine LeO.bind ?_ (fun _ => ?_))
   | exact ih0 _ _ _ _
   | exact ih1 _ _ _ _
   | exact ih2 _ _ _ _ _
   | exact ih3 _ _ _ _ _ _ _ _
   | exact ih4 _ _ _ _ _ _ _ _
   | exact stookref00_Same.mono _ _ _
   | exact stookref01_Get.mono _ _ _
   | exact stookref03_Get.mono _ _ _
   | exact stookref21_foot.mono _ _ _
   | exact LeO.none _
   | refine LeO.ite ?_ ?_
   | refine LeO.bind ?_ (fun _ => ?_)
  ·
   intro y0 y1 y2 y3 y4 y5 y6 y7
   unfold stookref21_Scan.j4
   repeat' first
   | (with_reducible exact ih0 _ _ _ _)
   | (with_reducible exact ih1 _ _ _ _)
   | (with_reducible exact ih2 _ _ _ _ _)
   | (with_reducible exact ih3 _ _ _ _ _ _ _ _)
   | (with_reducible exact ih4 _ _ _ _ _ _ _ _)
   | (with_reducible exact stookref00_Same.mono _ _ _)
   | (with_reducible exact stookref01_Get.mono _ _ _)
   | (with_reducible exact stookref03_Get.mono _ _ _)
   | (with_reducible exact stookref21_foot.mono _ _ _)
   | (with_reducible exact LeO.refl _)
   | (with_reducible exact LeO.none _)
   | (with_reducible refine LeO.ite ?_ ?_)
   | (with_reducible refine LeO.bind ?_ (fun _ => ?_))
   | exact ih0 _ _ _ _
   | exact ih1 _ _ _ _
   | exact ih2 _ _ _ _ _
   | exact ih3 _ _ _ _ _ _ _ _
   | exact ih4 _ _ _ _ _ _ _ _
   | exact stookref00_Same.mono _ _ _
   | exact stookref01_Get.mono _ _ _
   | exact stookref03_Get.mono _ _ _
   | exact stookref21_foot.mono _ _ _
   | exact LeO.none _
   | refine LeO.ite ?_ ?_
   | refine LeO.bind ?_ (fun _ => ?_)
theorem stookref21_Scan.mono : ∀ a0 k, LeO (stookref21_Scan.f k a0) (stookref21_Scan.f (k + 1) a0) := by
 intro a0 k
 obtain ⟨ih0, ih1, ih2, ih3, ih4⟩ := stookref21_Scan.mono_l k
 unfold stookref21_Scan.f
 repeat' first
   | (with_reducible exact ih0 _ _ _ _)
   | (with_reducible exact ih1 _ _ _ _)
   | (with_reducible exact ih2 _ _ _ _ _)
   | (with_reducible exact ih3 _ _ _ _ _ _ _ _)
   | (with_reducible exact ih4 _ _ _ _ _ _ _ _)
   | (with_reducible exact stookref00_Same.mono _ _ _)
   | (with_reducible exact stookref01_Get.mono _ _ _)
   | (with_reducible exact stookref03_Get.mono _ _ _)
   | (with_reducible exact stookref21_foot.mono _ _ _)
   | (with_reducible exact LeO.refl _)
   | (with_reducible exact LeO.none _)
   | (with_reducible refine LeO.ite ?_ ?_)
   | (with_reducible refine LeO.bind ?_ (fun _ => ?_))
   | exact ih0 _ _ _ _
   | exact ih1 _ _ _ _
   | exact ih2 _ _ _ _ _
   | exact ih3 _ _ _ _ _ _ _ _
   | exact ih4 _ _ _ _ _ _ _ _
   | exact stookref00_Same.mono _ _ _
   | exact stookref01_Get.mono _ _ _
   | exact stookref03_Get.mono _ _ _
   | exact stookref21_foot.mono _ _ _
   | exact LeO.none _
   | refine LeO.ite ?_ ?_
   | refine LeO.bind ?_ (fun _ => ?_)
def stookref21_Scan.T11 : Bool × List (List Nat × List Nat) := (true, [([], []), ([0], [0]), ([1], [1]), ([2], [2]), ([3], [3]), ([4], [4]), ([4], [4]), ([6, 4], [4, 6]), ([7, 4], [4, 7]), ([4], [4]), ([4], [4]), ([10, 4], [4, 10]), ([9, 11, 4], [4, 9, 11]), ([8, 12, 4, 4], [4, 8, 12]), ([5, 13, 13, 4], [4, 5, 13]), ([4, 14], [4, 14])])
def stookref21_Scan.B11 : List Nat := [0, 1, 3, 7, 15, 31, 31, 95, 223, 31, 31, 1055, 3615, 8159, 16383, 32767]
theorem stookref21_Scan.tab11 : rtab .any (opsOf Try.f17 11) = stookref21_Scan.T11 := by kernel_rfl
theorem stookref21_Scan.bits11 : waitsOk stookref21_Scan.T11.2 stookref21_Scan.B11 = true := by kernel_rfl
set_option maxHeartbeats 8000000 in
set_option maxRecDepth 100000 in
theorem stookref21_Scan.calls (k : Nat) (A0 : Option Addr) (c0 : Nat) (l0 : List Int) (r1 : Int) (r2 : List Int) (r3 : Bool) (r4 : Int) (r5 : Int) (w : World) (hr0 : Kd.C (Kd.int .u8) w A0 l0.length l0) (hc0 : l0.length ≤ c0) (h : stookref21_Scan.f k l0 = some (r1, r2, r3, r4, r5)) :
  Calls Try.prog 17 #[.slice A0 l0.length c0] w fun e w' => ∃ v1_ : Value, e = .returned (.tuple #[.agg #[.int .i64 r1, v1_, .bool r3, .int .i64 r4], .int .i64 r5]) ∧ Kd.R (Kd.int .i64) 3 w' w.heap.size (fun _ => True) v1_ r2 ∧ Below w.heap.size w w' := by
 have hu33 := Try.underlying33
 have HR0 := Aside0.mk hr0
 have HC0 := Aside0.mk hc0
 clear hr0 hc0
 have HB := Aside0.mk (Below.refl w.heap.size w)
 have H : ((stookref03_Get.f k l0 0).bind fun bt431 => (if bt431.2.2 = 0 then (if (bt431.1.length : Int) = 0 then (stookref21_Scan.j0 k l0 bt431.1 bt431.2.1 true) else (if 0 < (bt431.1.length : Int) then (stookref21_Scan.j0 k l0 bt431.1 bt431.2.1 ((rd bt431.1 0) != 104)) else (none))) else (stookref21_Scan.j0 k l0 bt431.1 bt431.2.1 true))) = some (r1, r2, r3, r4, r5) := h
 clear h
 replace H := Option.bind_eq_some_iff.mp H
 obtain ⟨⟨t431, t432, t433⟩, A20, H⟩ := H
 replace H : (if t433 = 0 then (if (t431.length : Int) = 0 then (stookref21_Scan.j0 k l0 t431 t432 true) else (if 0 < (t431.length : Int) then (stookref21_Scan.j0 k l0 t431 t432 ((rd t431 0) != 104)) else (none))) else (stookref21_Scan.j0 k l0 t431 t432 true)) = some (r1, r2, r3, r4, r5) := H
 have A2 := Aside0.mk A20
 clear A20
 have HC3 := Aside0.mk H
 clear H
 go_enter Try.func17, Try.ntmps17
 go_upto_region 2 with (first | ((with_reducible refine gate_dst (N := 2) rfl ?_); (try (refine gate_guard (by rfl) ?_; dsimp only)); refine box_event ?hg (N := 2) ?hd (cs := #[.int .i64 0, .slice none 0 0, .bool false, .int .i64 0]) (t := 33) ?hr ?_; (case hd => rfl); (case hg => rfl); (case hr => first | (go_simp; done) | (go_simp; rfl)); intro gb430 hg w4 hbox hb; have n0_ := Aside0.mk (below_step (by repeat (first | (with_reducible first | exact HB.out | apply below_alloc | apply pw_below_drewN | apply below_drew1) | exact HB.out)) hb); have n1_ := Aside0.mk (hbox); have n2_ := Aside0.mk ((by rw [hg]; exact (below_size (by repeat (first | (with_reducible first | exact HB.out | apply below_alloc | apply pw_below_drewN | apply below_drew1) | exact HB.out))) : w.heap.size ≤ gb430)); have n3_ := Aside0.mk ((by rw [hg]; exact (below_size (by repeat (first | (with_reducible first | exact HB.out | apply below_alloc | apply pw_below_drewN | apply below_drew1) | exact HB.out))) : w.heap.size ≤ gb430)); clear HB; have HB := n0_; have BK430 := n1_; have GW430 := n2_; have GE430 := n3_; clear n0_ n1_ n2_ n3_; clear hb hbox hg) | ((with_reducible refine gate_callee (f := 40) rfl ?_); refine goesL_ (some 15) rfl rfl Try.func40 (by kernel_rfl) rfl #[.slice A0 l0.length c0, .int .i64 0] rfl (by (try simp only [List.map_toArray, List.map_cons, List.map_nil]); first | done | rfl | (simp only [List.length_drop, List.length_take]; rfl)) ?_; (with_reducible refine (stookref03_Get.calls k _ _ l0 0 t431 t432 t433 _ ?side1 ?side2 A2.out).mono ?_); (case side1 => repeat (first | exact (Kd.C_below HR0.out HB.out) | (with_reducible refine Kd.C_alloc ?_ _) | (with_reducible refine Kd.C_drewN ?_ _) | (with_reducible refine Kd.C_drew ?_))); (case side2 => exact HC0.out); rintro e w5 ⟨v434, rfl, ho0, hb⟩; refine ⟨_, rfl, ?_⟩; have n0_ := Aside0.mk (Kd.R_lower ho0 (below_size (by repeat (first | (with_reducible first | exact HB.out | apply below_alloc | apply pw_below_drewN | apply below_drew1 | refine below_set ?_ GE430.out) | exact HB.out)))); have n1_ := Aside0.mk (blk_below (g := gb430) (o := .cells #[.int .i64 0, .slice none 0 0, .bool false, .int .i64 0] 33 (0, 0)) (by (with_reducible repeat (first | refine blk_drewN ?_ _ | refine blk_drew ?_ | refine blk_alloc ?_ _)); exact BK430.out) hb); have n2_ := Aside0.mk (below_step (by repeat (first | (with_reducible first | exact HB.out | apply below_alloc | apply pw_below_drewN | apply below_drew1 | refine below_set ?_ GE430.out) | exact HB.out)) hb); clear BK430; clear HB; have HO435 := n0_; have BK430 := n1_; have HB := n2_; clear n0_ n1_ n2_; (try clear hb); (try clear hb2); (try clear hk); (try clear hi); (try clear ho0)))
 (try simp only [Act.put, List.setIfInBounds_toArray, List.set_cons_zero, List.set_cons_succ])
 go_cut [31] (fun v31 wc => ∃ (kq : Nat) (x31_2 : Bool), v31 = .bool x31_2 ∧ Aside0 (stookref21_Scan.j0 kq l0 t431 t432 x31_2 = some (r1, r2, r3, r4, r5)) ∧ Aside0 (kq ≤ k) ∧ Aside0 (Kd.R (Kd.int .u8) 5 wc w.heap.size (fun _ => True) v434 t431) ∧ Aside0 (wc.heap[gb430]? = some (.cells #[.int .i64 0, (.slice none 0 0), .bool false, .int .i64 0] 33 (0, 0))) ∧ Aside0 (Below w.heap.size w wc))
 case first =>
  have H := HC3.out
  clear HC3
  by_cases c6 : t433 = 0
  ·
   rw [if_pos c6] at H
   have c6b0 : (t433 == 0) = true := beq_iff_eq.mpr c6
   have c6b1 : (t433 != 0) = false := bne_eq_false_iff_eq.mpr c6
   clear c6
   (first | rw [c6b0] | (simp only [i64_w, i32_w]; rw [c6b0]) | skip)
   by_cases c7 : (t431.length : Int) = 0
   ·
    rw [if_pos c7] at H
    have c7b0 : ((t431.length : Int) == 0) = true := beq_iff_eq.mpr c7
    have c7b1 : ((t431.length : Int) != 0) = false := bne_eq_false_iff_eq.mpr c7
    clear c7
    have H' := Aside0.mk H
    clear H
    obtain ⟨Ao8, co8, eo8⟩ := Kd.R_slice HO435.out
    subst eo8
    go_wp2
    go_meet
    case rel => exact ⟨_, (true), (by first | rfl | (simp; done) | (simp [*]; done)), H', ⟨by first | omega | exact Nat.le_refl _⟩, ⟨by (with_reducible repeat (first | apply Kd.R_alloc | apply Kd.R_drewN | apply Kd.R_drew)); exact HO435.out⟩, ⟨by (with_reducible repeat (first | refine blk_drewN ?_ _ | refine blk_drew ?_ | refine blk_alloc ?_ _)); exact BK430.out⟩, ⟨by repeat (first | (with_reducible first | exact HB.out | apply below_alloc | apply pw_below_drewN | apply below_drew1 | refine below_set ?_ GE430.out) | exact HB.out)⟩⟩
   ·
    rw [if_neg c7] at H
    have c7b0 : ((t431.length : Int) == 0) = false := beq_eq_false_iff_ne.mpr c7
    have c7b1 : ((t431.length : Int) != 0) = true := bne_iff_ne.mpr c7
    have c7b2 : ¬ (t431 = []) := fun h_ => c7 (by rw [h_]; rfl)
    by_cases c9 : 0 < (t431.length : Int)
    ·
     rw [if_pos c9] at H
     have c9b0 : decide (0 < (t431.length : Int)) = true := decide_eq_true c9
     have c9b1 : decide (0 < t431.length) = true := decide_eq_true (by omega)
     clear c9
     have H' := Aside0.mk H
     clear H
     obtain ⟨Ao10, co10, eo10⟩ := Kd.R_slice HO435.out
     subst eo10
     have p436 : 0 ≤ (0 : Int) := (by omega)
     have q436 : 0 < (t431.length : Int) := of_decide_eq_true (by first | (with_reducible assumption) | assumption)
     obtain ⟨ad436, e436, hx436_0⟩ := Kd.at_int (Kd.R_reads' HO435.out).2.2 0 p436 q436
     cases e436
     have qi436 : (0 < t431.length) = True := eq_true (by omega)
     (try rw [show ((0 : Int)).toNat = 0 from rfl] at hx436_0)
     (try rw [Addr.add_zero'] at hx436_0)
     replace p436 := eq_true p436
     replace q436 := eq_true q436
     go_wp2
     go_meet
     case rel => exact ⟨_, (((rd t431 0) != 104)), (by first | rfl | (simp; done) | (simp [*]; done)), H', ⟨by first | omega | exact Nat.le_refl _⟩, ⟨by (with_reducible repeat (first | apply Kd.R_alloc | apply Kd.R_drewN | apply Kd.R_drew)); exact HO435.out⟩, ⟨by (with_reducible repeat (first | refine blk_drewN ?_ _ | refine blk_drew ?_ | refine blk_alloc ?_ _)); exact BK430.out⟩, ⟨by repeat (first | (with_reducible first | exact HB.out | apply below_alloc | apply pw_below_drewN | apply below_drew1 | refine below_set ?_ GE430.out) | exact HB.out)⟩⟩
    ·
     rw [if_neg c9] at H
     exact absurd H (by simp)
  ·
   rw [if_neg c6] at H
   have c6b0 : (t433 == 0) = false := beq_eq_false_iff_ne.mpr c6
   have c6b1 : (t433 != 0) = true := bne_iff_ne.mpr c6
   (first | rw [c6b0] | (simp only [i64_w, i32_w]; rw [c6b0]) | skip)
   have H' := Aside0.mk H
   clear H
   go_wp2
   go_meet
   case rel => exact ⟨_, (true), (by first | rfl | (simp; done) | (simp [*]; done)), H', ⟨by first | omega | exact Nat.le_refl _⟩, ⟨by (with_reducible repeat (first | apply Kd.R_alloc | apply Kd.R_drewN | apply Kd.R_drew)); exact HO435.out⟩, ⟨by (with_reducible repeat (first | refine blk_drewN ?_ _ | refine blk_drew ?_ | refine blk_alloc ?_ _)); exact BK430.out⟩, ⟨by repeat (first | (with_reducible first | exact HB.out | apply below_alloc | apply pw_below_drewN | apply below_drew1 | refine below_set ?_ GE430.out) | exact HB.out)⟩⟩
 case rest =>
  clear HC3
  try clear c1
  try clear p2
  try clear c4
  try clear p4
  try clear q4
  try clear hx4
  try clear qi4
  try clear c6
  try clear c6b0
  try clear c6b1
  try clear c7
  try clear c7b0
  try clear c7b1
  try clear c7b2
  try clear c9
  try clear c9b0
  try clear c9b1
  try clear hx436_0
  try clear p436
  try clear q436
  obtain ⟨kq, x31_2, rfl, HA, HJ2, HO_4, BK430, HB⟩ := hcut
  cases kq with
  | zero => exact absurd HA.out (by simp [stookref21_Scan.j0])
  | succ kj2 =>
   have H := HA.out
   clear HA
   simp only [stookref21_Scan.j0] at H
   by_cases c11 : x31_2 = true
   ·
    subst c11
    have H1 : (some (0, ([] : List Int), false, 0, 5)) = some (r1, r2, r3, r4, r5) := by rw [if_pos rfl] at H; exact H
    clear H
    have H := H1
    clear H1
    simp only [Option.some.injEq, Prod.mk.injEq] at H
    obtain ⟨rfl, rfl, rfl, rfl, rfl⟩ := H
    have hcz12_0 : wc.cell? ⟨gb430, 0, none⟩ = some (.int .i64 0) := (blk_cell BK430.out 0).trans rfl
    have hcz12_1 : wc.cell? ⟨gb430, 1, none⟩ = some (.slice none 0 0) := (blk_cell BK430.out 1).trans rfl
    have hcz12_2 : wc.cell? ⟨gb430, 2, none⟩ = some (.bool false) := (blk_cell BK430.out 2).trans rfl
    have hcz12_3 : wc.cell? ⟨gb430, 3, none⟩ = some (.int .i64 0) := (blk_cell BK430.out 3).trans rfl
    have hfz12_0 := blk_frozen BK430.out 0
    have hfz12_1 := blk_frozen BK430.out 1
    have hfz12_2 := blk_frozen BK430.out 2
    have hfz12_3 := blk_frozen BK430.out 3
    go_wp2
    refine bodyPost_ret (results_ct rfl _ _ gb430 33 #[.int .i64 0, .slice none 0 0, .bool false, .int .i64 0] (0, 0) _ rfl (by (with_reducible repeat (first | refine blk_drewN ?_ _ | refine blk_drew ?_ | refine blk_alloc ?_ _)); refine blk_put (cs := #[.int .i64 0, .slice none 0 0, .bool false, .int .i64 0]) ?_ 3 _ rfl; (with_reducible repeat (first | refine blk_drewN ?_ _ | refine blk_drew ?_ | refine blk_alloc ?_ _)); refine blk_put (cs := #[.int .i64 0, .slice none 0 0, .bool false, .int .i64 0]) ?_ 2 _ rfl; (with_reducible repeat (first | refine blk_drewN ?_ _ | refine blk_drew ?_ | refine blk_alloc ?_ _)); refine blk_put (cs := #[.int .i64 0, .slice none 0 0, .bool false, .int .i64 0]) ?_ 1 _ rfl; (with_reducible repeat (first | refine blk_drewN ?_ _ | refine blk_drew ?_ | refine blk_alloc ?_ _)); refine blk_put (cs := #[.int .i64 0, .slice none 0 0, .bool false, .int .i64 0]) ?_ 0 _ rfl; (with_reducible repeat (first | refine blk_drewN ?_ _ | refine blk_drew ?_ | refine blk_alloc ?_ _)); exact BK430.out) Try.underlying33 rfl (by kernel_rfl)) rfl ?_
    exact ⟨_, by first | rfl | (simp [errW_none, errW_some] <;> rfl) | (simp [*, errW_none, errW_some] <;> rfl), by first | exact Kd.R_nil _ _ _ _ _ | exact Kd.N_nil _ _ _ _ _ | exact Kd.V_nil _ _ _ _ _ | exact Kd.Q_nil _ _ _ _ _ | exact Kd.S_nil _ _ _ _ _, by repeat (first | (with_reducible first | exact HB.out | apply below_alloc | apply pw_below_drewN | apply below_drew1 | refine below_set ?_ GE430.out) | exact HB.out)⟩
   ·
    replace c11 := Bool.eq_false_iff.mpr c11
    subst c11
    have H1 : ((stookref01_Get.f kj2 t431 1).bind fun bt437 => (if bt437.2.2 = 0 then (if bt437.2.1 = (t431.length : Int) then (stookref21_Scan.j1 kj2 l0 t432 bt437.1 (decide (bt437.1 > 2147483647))) else (stookref21_Scan.j1 kj2 l0 t432 bt437.1 true)) else (stookref21_Scan.j1 kj2 l0 t432 bt437.1 true))) = some (r1, r2, r3, r4, r5) := by rw [if_neg (show ¬ (false = true) by decide)] at H; exact H
    clear H
    have H := H1
    clear H1
    replace H := Option.bind_eq_some_iff.mp H
    obtain ⟨⟨t437, t438, t439⟩, A130, H⟩ := H
    replace H : (if t439 = 0 then (if t438 = (t431.length : Int) then (stookref21_Scan.j1 kj2 l0 t432 t437 (decide (t437 > 2147483647))) else (stookref21_Scan.j1 kj2 l0 t432 t437 true)) else (stookref21_Scan.j1 kj2 l0 t432 t437 true)) = some (r1, r2, r3, r4, r5) := H
    have A13 := Aside0.mk A130
    clear A130
    have HC14 := Aside0.mk H
    clear H
    obtain ⟨Ao15, co15, eo15⟩ := Kd.R_slice HO_4.out
    subst eo15
    go_upto_region 5 with (first | ((with_reducible refine gate_callee (f := 41) rfl ?_); refine goesL_ (some 35) rfl rfl Try.func41 (by kernel_rfl) rfl #[.slice Ao15 t431.length co15, .int .i64 1] rfl (by (try simp only [List.map_toArray, List.map_cons, List.map_nil]); first | done | rfl | (simp only [List.length_drop, List.length_take]; rfl)) ?_; (with_reducible refine (stookref01_Get.calls kj2 _ _ t431 1 t437 t438 t439 _ ?side1 ?side2 A13.out).mono ?_); (case side1 => repeat (first | exact (Kd.R_reads' HO_4.out).2.2 | (with_reducible refine Kd.C_alloc ?_ _) | (with_reducible refine Kd.C_drewN ?_ _) | (with_reducible refine Kd.C_drew ?_))); (case side2 => exact (Kd.R_reads' HO_4.out).2.1); rintro e w' ⟨rfl, ⟨nd, rfl⟩⟩; refine ⟨_, rfl, ?_⟩))
    (try simp only [Act.put, List.setIfInBounds_toArray, List.set_cons_zero, List.set_cons_succ])
    go_cut [50] (fun v50 wc => ∃ (kq : Nat) (x50_13 : Bool), v50 = .bool x50_13 ∧ Aside0 (stookref21_Scan.j1 kq l0 t432 t437 x50_13 = some (r1, r2, r3, r4, r5)) ∧ Aside0 (kq ≤ kj2) ∧ Aside0 (wc.heap[gb430]? = some (.cells #[.int .i64 0, (.slice none 0 0), .bool false, .int .i64 0] 33 (0, 0))) ∧ Aside0 (Below w.heap.size w wc))
    case first =>
     have H := HC14.out
     clear HC14
     by_cases c16 : t439 = 0
     ·
      rw [if_pos c16] at H
      have c16b0 : (t439 == 0) = true := beq_iff_eq.mpr c16
      have c16b1 : (t439 != 0) = false := bne_eq_false_iff_eq.mpr c16
      clear c16
      (first | rw [c16b0] | (simp only [i64_w, i32_w]; rw [c16b0]) | skip)
      by_cases c17 : t438 = (t431.length : Int)
      ·
       rw [if_pos c17] at H
       have c17b0 : (t438 == (t431.length : Int)) = true := beq_iff_eq.mpr c17
       have c17b1 : (t438 != (t431.length : Int)) = false := bne_eq_false_iff_eq.mpr c17
       clear c17
       have H' := Aside0.mk H
       clear H
       go_wp2
       go_meet
       case rel => exact ⟨_, (decide (t437 > 2147483647)), (by first | rfl | (simp; done) | (simp [*]; done)), H', ⟨by have := HJ2.out; first | omega | exact Nat.le_refl _⟩, ⟨by (with_reducible repeat (first | refine blk_drewN ?_ _ | refine blk_drew ?_ | refine blk_alloc ?_ _)); exact BK430.out⟩, ⟨by repeat (first | (with_reducible first | exact HB.out | apply below_alloc | apply pw_below_drewN | apply below_drew1 | refine below_set ?_ GE430.out) | exact HB.out)⟩⟩
      ·
       rw [if_neg c17] at H
       have c17b0 : (t438 == (t431.length : Int)) = false := beq_eq_false_iff_ne.mpr c17
       have c17b1 : (t438 != (t431.length : Int)) = true := bne_iff_ne.mpr c17
       have H' := Aside0.mk H
       clear H
       go_wp2
       go_meet
       case rel => exact ⟨_, (true), (by first | rfl | (simp; done) | (simp [*]; done)), H', ⟨by have := HJ2.out; first | omega | exact Nat.le_refl _⟩, ⟨by (with_reducible repeat (first | refine blk_drewN ?_ _ | refine blk_drew ?_ | refine blk_alloc ?_ _)); exact BK430.out⟩, ⟨by repeat (first | (with_reducible first | exact HB.out | apply below_alloc | apply pw_below_drewN | apply below_drew1 | refine below_set ?_ GE430.out) | exact HB.out)⟩⟩
     ·
      rw [if_neg c16] at H
      have c16b0 : (t439 == 0) = false := beq_eq_false_iff_ne.mpr c16
      have c16b1 : (t439 != 0) = true := bne_iff_ne.mpr c16
      (first | rw [c16b0] | (simp only [i64_w, i32_w]; rw [c16b0]) | skip)
      have H' := Aside0.mk H
      clear H
      go_wp2
      go_meet
      case rel => exact ⟨_, (true), (by first | rfl | (simp; done) | (simp [*]; done)), H', ⟨by have := HJ2.out; first | omega | exact Nat.le_refl _⟩, ⟨by (with_reducible repeat (first | refine blk_drewN ?_ _ | refine blk_drew ?_ | refine blk_alloc ?_ _)); exact BK430.out⟩, ⟨by repeat (first | (with_reducible first | exact HB.out | apply below_alloc | apply pw_below_drewN | apply below_drew1 | refine below_set ?_ GE430.out) | exact HB.out)⟩⟩
    case rest =>
     clear HC14
     try clear c1
     try clear p2
     try clear c4
     try clear p4
     try clear q4
     try clear hx4
     try clear qi4
     try clear c6
     try clear c6b0
     try clear c6b1
     try clear c7
     try clear c7b0
     try clear c7b1
     try clear c7b2
     try clear c9
     try clear c9b0
     try clear c9b1
     try clear c11
     try clear c16
     try clear c16b0
     try clear c16b1
     try clear c17
     try clear c17b0
     try clear c17b1
     try clear hcz12_0
     try clear hcz12_1
     try clear hcz12_2
     try clear hcz12_3
     try clear hfz12_0
     try clear hfz12_1
     try clear hfz12_2
     try clear hfz12_3
     try clear hx436_0
     try clear p2
     try clear p4
     try clear p436
     try clear q4
     try clear q436
     obtain ⟨kq, x50_13, rfl, HA, HJ13, BK430, HB⟩ := hcut
     cases kq with
     | zero => exact absurd HA.out (by simp [stookref21_Scan.j1])
     | succ kj13 =>
      have H := HA.out
      clear HA
      simp only [stookref21_Scan.j1] at H
      by_cases c18 : x50_13 = true
      ·
       subst c18
       have H1 : (some (0, ([] : List Int), false, 0, 5)) = some (r1, r2, r3, r4, r5) := by rw [if_pos rfl] at H; exact H
       clear H
       have H := H1
       clear H1
       simp only [Option.some.injEq, Prod.mk.injEq] at H
       obtain ⟨rfl, rfl, rfl, rfl, rfl⟩ := H
       have hcz19_0 : wc.cell? ⟨gb430, 0, none⟩ = some (.int .i64 0) := (blk_cell BK430.out 0).trans rfl
       have hcz19_1 : wc.cell? ⟨gb430, 1, none⟩ = some (.slice none 0 0) := (blk_cell BK430.out 1).trans rfl
       have hcz19_2 : wc.cell? ⟨gb430, 2, none⟩ = some (.bool false) := (blk_cell BK430.out 2).trans rfl
       have hcz19_3 : wc.cell? ⟨gb430, 3, none⟩ = some (.int .i64 0) := (blk_cell BK430.out 3).trans rfl
       have hfz19_0 := blk_frozen BK430.out 0
       have hfz19_1 := blk_frozen BK430.out 1
       have hfz19_2 := blk_frozen BK430.out 2
       have hfz19_3 := blk_frozen BK430.out 3
       go_wp2
       refine bodyPost_ret (results_ct rfl _ _ gb430 33 #[.int .i64 0, .slice none 0 0, .bool false, .int .i64 0] (0, 0) _ rfl (by (with_reducible repeat (first | refine blk_drewN ?_ _ | refine blk_drew ?_ | refine blk_alloc ?_ _)); refine blk_put (cs := #[.int .i64 0, .slice none 0 0, .bool false, .int .i64 0]) ?_ 3 _ rfl; (with_reducible repeat (first | refine blk_drewN ?_ _ | refine blk_drew ?_ | refine blk_alloc ?_ _)); refine blk_put (cs := #[.int .i64 0, .slice none 0 0, .bool false, .int .i64 0]) ?_ 2 _ rfl; (with_reducible repeat (first | refine blk_drewN ?_ _ | refine blk_drew ?_ | refine blk_alloc ?_ _)); refine blk_put (cs := #[.int .i64 0, .slice none 0 0, .bool false, .int .i64 0]) ?_ 1 _ rfl; (with_reducible repeat (first | refine blk_drewN ?_ _ | refine blk_drew ?_ | refine blk_alloc ?_ _)); refine blk_put (cs := #[.int .i64 0, .slice none 0 0, .bool false, .int .i64 0]) ?_ 0 _ rfl; (with_reducible repeat (first | refine blk_drewN ?_ _ | refine blk_drew ?_ | refine blk_alloc ?_ _)); exact BK430.out) Try.underlying33 rfl (by kernel_rfl)) rfl ?_
       exact ⟨_, by first | rfl | (simp [errW_none, errW_some] <;> rfl) | (simp [*, errW_none, errW_some] <;> rfl), by first | exact Kd.R_nil _ _ _ _ _ | exact Kd.N_nil _ _ _ _ _ | exact Kd.V_nil _ _ _ _ _ | exact Kd.Q_nil _ _ _ _ _ | exact Kd.S_nil _ _ _ _ _, by repeat (first | (with_reducible first | exact HB.out | apply below_alloc | apply pw_below_drewN | apply below_drew1 | refine below_set ?_ GE430.out) | exact HB.out)⟩
      ·
       replace c18 := Bool.eq_false_iff.mpr c18
       subst c18
       have H1 : (stookref21_Scan.l0 kj13 l0 (wrap64 (t437)) ([] : List Int) false t432) = some (r1, r2, r3, r4, r5) := by rw [if_neg (show ¬ (false = true) by decide)] at H; exact H
       clear H
       have H := H1
       clear H1
       have H' := Aside0.mk H
       clear H
       go_wp2_with (first | ((with_reducible refine gate_dst (N := 9) rfl ?_); (try (refine gate_guard (by rfl) ?_; dsimp only)); refine box_event ?hg (N := 9) ?hd (cs := #[.int .i64 0, .slice none 0 0, .bool false, .int .i64 0]) (t := 33) ?hr ?_; (case hd => rfl); (case hg => rfl); (case hr => first | (go_simp; done) | (go_simp; rfl)); intro gb440 hg w20 hbox hb; have n0_ := Aside0.mk (blk_below (g := gb430) (o := .cells #[.int .i64 0, .slice none 0 0, .bool false, .int .i64 0] 33 (0, 0)) (by (with_reducible repeat (first | refine blk_drewN ?_ _ | refine blk_drew ?_ | refine blk_alloc ?_ _)); exact BK430.out) hb); have n1_ := Aside0.mk (below_step (by repeat (first | (with_reducible first | exact HB.out | apply below_alloc | apply pw_below_drewN | apply below_drew1 | refine below_set ?_ GE430.out) | exact HB.out)) hb); have n2_ := Aside0.mk (hbox); have n3_ := Aside0.mk ((by rw [hg]; exact (below_size (by repeat (first | (with_reducible first | exact HB.out | apply below_alloc | apply pw_below_drewN | apply below_drew1 | refine below_set ?_ GE430.out) | exact HB.out))) : w.heap.size ≤ gb440)); have n4_ := Aside0.mk ((by rw [hg]; exact (below_size (by repeat (first | (with_reducible first | exact HB.out | apply below_alloc | apply pw_below_drewN | apply below_drew1 | refine below_set ?_ GE430.out) | exact HB.out))) : w.heap.size ≤ gb440)); have n5_ := Aside0.mk ((by rw [hg]; exact Nat.ne_of_lt (blk_lt (g := gb430) (o := .cells #[.int .i64 0, .slice none 0 0, .bool false, .int .i64 0] 33 (0, 0)) (by (with_reducible repeat (first | refine blk_drewN ?_ _ | refine blk_drew ?_ | refine blk_alloc ?_ _)); exact BK430.out)) : gb430 ≠ gb440)); have n6_ := Aside0.mk ((by rw [hg]; exact Nat.ne_of_gt (blk_lt (g := gb430) (o := .cells #[.int .i64 0, .slice none 0 0, .bool false, .int .i64 0] 33 (0, 0)) (by (with_reducible repeat (first | refine blk_drewN ?_ _ | refine blk_drew ?_ | refine blk_alloc ?_ _)); exact BK430.out)) : gb440 ≠ gb430)); clear BK430; clear HB; have BK430 := n0_; have HB := n1_; have BK440 := n2_; have GW440 := n3_; have GE440 := n4_; have NB430_440 := n5_; have NB440_430 := n6_; clear n0_ n1_ n2_ n3_ n4_ n5_ n6_; clear hb hbox hg; have hnb21 := NB440_430.out; have hnc21 := NB430_440.out; have hcz22_0 : w20.cell? ⟨gb440, 0, none⟩ = some (.int .i64 0) := (blk_cell BK440.out 0).trans rfl; have hcz22_1 : w20.cell? ⟨gb440, 1, none⟩ = some (.slice none 0 0) := (blk_cell BK440.out 1).trans rfl; have hcz22_2 : w20.cell? ⟨gb440, 2, none⟩ = some (.bool false) := (blk_cell BK440.out 2).trans rfl; have hcz22_3 : w20.cell? ⟨gb440, 3, none⟩ = some (.int .i64 0) := (blk_cell BK440.out 3).trans rfl; have hfz22_0 := blk_frozen BK440.out 0; have hfz22_1 := blk_frozen BK440.out 1; have hfz22_2 := blk_frozen BK440.out 2; have hfz22_3 := blk_frozen BK440.out 3))
       go_loopg [] kj13 (fun kq w' => ∃ (x431000_3 : Int) (x431002_3 : Bool) (x431003_3 : Int) (x441001_3 : List Int) (x441002_3 : Bool) (x441003_3 : Int) (u441001 : Value), Aside0 (stookref21_Scan.l0 kq l0 (wrap64 (t437)) x441001_3 x441002_3 x441003_3 = some (r1, r2, r3, r4, r5)) ∧ Aside0 (kq ≤ kj13) ∧ Aside0 (Kd.R (Kd.int .i64) 3 w' w.heap.size (fun _ => True) u441001 x441001_3) ∧ Aside0 (w'.heap[gb430]? = some (.cells #[.int .i64 x431000_3, (.slice none 0 0), .bool x431002_3, .int .i64 x431003_3] 33 (0, 0))) ∧ Aside0 (w'.heap[gb440]? = some (.cells #[.int .i64 (wrap64 (t437)), u441001, .bool x441002_3, .int .i64 x441003_3] 33 (0, 0))) ∧ Aside0 (Below w.heap.size w w'))
       case atStart => exact ⟨(0), (false), (0), (([] : List Int)), (false), (t432), (.slice none 0 0), H', ⟨Nat.le_refl _⟩, ⟨by first | exact Kd.R_nil _ _ _ _ _ | exact Kd.N_nil _ _ _ _ _ | exact Kd.V_nil _ _ _ _ _ | exact Kd.Q_nil _ _ _ _ _ | exact Kd.S_nil _ _ _ _ _⟩, ⟨by (with_reducible repeat (first | refine blk_drewN ?_ _ | refine blk_drew ?_ | refine blk_alloc ?_ _)); refine blk_far ?_ NB430_440.out _; (with_reducible repeat (first | refine blk_drewN ?_ _ | refine blk_drew ?_ | refine blk_alloc ?_ _)); refine blk_far ?_ NB430_440.out _; (with_reducible repeat (first | refine blk_drewN ?_ _ | refine blk_drew ?_ | refine blk_alloc ?_ _)); refine blk_far ?_ NB430_440.out _; (with_reducible repeat (first | refine blk_drewN ?_ _ | refine blk_drew ?_ | refine blk_alloc ?_ _)); refine blk_far ?_ NB430_440.out _; (with_reducible repeat (first | refine blk_drewN ?_ _ | refine blk_drew ?_ | refine blk_alloc ?_ _)); exact BK430.out⟩, ⟨by (with_reducible repeat (first | refine blk_drewN ?_ _ | refine blk_drew ?_ | refine blk_alloc ?_ _)); refine blk_put (cs := #[.int .i64 (wrap64 (t437)), .slice none 0 0, .bool false, .int .i64 0]) ?_ 3 _ rfl; (with_reducible repeat (first | refine blk_drewN ?_ _ | refine blk_drew ?_ | refine blk_alloc ?_ _)); refine blk_put (cs := #[.int .i64 (wrap64 (t437)), .slice none 0 0, .bool false, .int .i64 0]) ?_ 2 _ rfl; (with_reducible repeat (first | refine blk_drewN ?_ _ | refine blk_drew ?_ | refine blk_alloc ?_ _)); refine blk_put (cs := #[.int .i64 (wrap64 (t437)), .slice none 0 0, .bool false, .int .i64 0]) ?_ 1 _ rfl; (with_reducible repeat (first | refine blk_drewN ?_ _ | refine blk_drew ?_ | refine blk_alloc ?_ _)); refine blk_put (cs := #[.int .i64 0, .slice none 0 0, .bool false, .int .i64 0]) ?_ 0 _ rfl; (with_reducible repeat (first | refine blk_drewN ?_ _ | refine blk_drew ?_ | refine blk_alloc ?_ _)); exact BK440.out⟩, ⟨by repeat (first | (with_reducible first | exact HB.out | apply below_alloc | apply pw_below_drewN | apply below_drew1 | refine below_set ?_ GE430.out | refine below_set ?_ GE440.out) | exact HB.out)⟩⟩
       case round =>
        clear H'
        try clear c1
        try clear c2
        try clear p2
        try clear c4
        try clear p4
        try clear q4
        try clear hx4
        try clear qi4
        try clear c6
        try clear c6b0
        try clear c6b1
        try clear p6
        try clear c7
        try clear c7b0
        try clear c7b1
        try clear c7b2
        try clear c9
        try clear c9b0
        try clear c9b1
        try clear c11
        try clear c16
        try clear c16b0
        try clear c16b1
        try clear c17
        try clear c17b0
        try clear c17b1
        try clear c18
        try clear c21
        try clear hcz12_0
        try clear hcz12_1
        try clear hcz12_2
        try clear hcz12_3
        try clear hcz19_0
        try clear hcz19_1
        try clear hcz19_2
        try clear hcz19_3
        try clear hcz22_0
        try clear hcz22_1
        try clear hcz22_2
        try clear hcz22_3
        try clear hfz12_0
        try clear hfz12_1
        try clear hfz12_2
        try clear hfz12_3
        try clear hfz19_0
        try clear hfz19_1
        try clear hfz19_2
        try clear hfz19_3
        try clear hfz22_0
        try clear hfz22_1
        try clear hfz22_2
        try clear hfz22_3
        try clear hx436_0
        try clear p2
        try clear p4
        try clear p436
        try clear q4
        try clear q436
        obtain ⟨x431000_3, x431002_3, x431003_3, x441001_3, x441002_3, x441003_3, u441001, HA, HK3, HO_441001, BK430, BK440, HB⟩ := hrel
        cases gk with
        | zero => exact absurd HA.out (by simp [stookref21_Scan.l0])
        | succ k3 =>
         have H := HA.out
         clear HA
         simp only [stookref21_Scan.l0] at H
         replace H := Option.bind_eq_some_iff.mp H
         obtain ⟨⟨t441, t442, t443⟩, A230, H⟩ := H
         replace H : (if t443 = 0 then (stookref21_Scan.j3 k3 l0 t441 t442 ((t441.length : Int) == 0) (wrap64 (t437)) x441001_3 x441002_3 x441003_3) else (stookref21_Scan.j3 k3 l0 t441 t442 true (wrap64 (t437)) x441001_3 x441002_3 x441003_3)) = some (r1, r2, r3, r4, r5) := H
         have A23 := Aside0.mk A230
         clear A230
         have HC24 := Aside0.mk H
         clear H
         have hnb25 := NB440_430.out
         have hnc25 := NB430_440.out
         have hcz26_0 : wr.cell? ⟨gb440, 0, none⟩ = some (.int .i64 (wrap64 (t437))) := (blk_cell BK440.out 0).trans rfl
         have hcz26_1 : wr.cell? ⟨gb440, 1, none⟩ = some (u441001) := (blk_cell BK440.out 1).trans rfl
         have hcz26_2 : wr.cell? ⟨gb440, 2, none⟩ = some (.bool x441002_3) := (blk_cell BK440.out 2).trans rfl
         have hcz26_3 : wr.cell? ⟨gb440, 3, none⟩ = some (.int .i64 x441003_3) := (blk_cell BK440.out 3).trans rfl
         have hfz26_0 := blk_frozen BK440.out 0
         have hfz26_1 := blk_frozen BK440.out 1
         have hfz26_2 := blk_frozen BK440.out 2
         have hfz26_3 := blk_frozen BK440.out 3
         go_upto_region 9 with (first | ((with_reducible refine gate_callee (f := 40) rfl ?_); refine goesL_ (some 60) rfl rfl Try.func40 (by kernel_rfl) rfl #[.slice A0 l0.length c0, .int .i64 x441003_3] rfl (by (try simp only [List.map_toArray, List.map_cons, List.map_nil]); first | done | rfl | (simp only [List.length_drop, List.length_take]; rfl)) ?_; (with_reducible refine (stookref03_Get.calls k3 _ _ l0 x441003_3 t441 t442 t443 _ ?side1 ?side2 A23.out).mono ?_); (case side1 => repeat (first | exact (Kd.C_below HR0.out HB.out) | (with_reducible refine Kd.C_alloc ?_ _) | (with_reducible refine Kd.C_drewN ?_ _) | (with_reducible refine Kd.C_drew ?_))); (case side2 => exact HC0.out); rintro e w27 ⟨v444, rfl, ho0, hb⟩; refine ⟨_, rfl, ?_⟩; have n0_ := Aside0.mk (Kd.R_below (by (with_reducible repeat (first | apply Kd.R_alloc | apply Kd.R_drewN | apply Kd.R_drew)); exact HO_441001.out) hb); have n1_ := Aside0.mk (Kd.R_lower ho0 (below_size (by repeat (first | (with_reducible first | exact HB.out | apply below_alloc | apply pw_below_drewN | apply below_drew1 | refine below_set ?_ GE430.out | refine below_set ?_ GE440.out) | exact HB.out)))); have n2_ := Aside0.mk (blk_below (g := gb430) (o := .cells #[.int .i64 x431000_3, .slice none 0 0, .bool x431002_3, .int .i64 x431003_3] 33 (0, 0)) (by (with_reducible repeat (first | refine blk_drewN ?_ _ | refine blk_drew ?_ | refine blk_alloc ?_ _)); exact BK430.out) hb); have n3_ := Aside0.mk (blk_below (g := gb440) (o := .cells #[.int .i64 (wrap64 (t437)), u441001, .bool x441002_3, .int .i64 x441003_3] 33 (0, 0)) (by (with_reducible repeat (first | refine blk_drewN ?_ _ | refine blk_drew ?_ | refine blk_alloc ?_ _)); exact BK440.out) hb); have n4_ := Aside0.mk (below_step (by repeat (first | (with_reducible first | exact HB.out | apply below_alloc | apply pw_below_drewN | apply below_drew1 | refine below_set ?_ GE430.out | refine below_set ?_ GE440.out) | exact HB.out)) hb); clear HO_441001; clear BK430; clear BK440; clear HB; have HO_441001 := n0_; have HO445 := n1_; have BK430 := n2_; have BK440 := n3_; have HB := n4_; clear n0_ n1_ n2_ n3_ n4_; (try clear hb); (try clear hb2); (try clear hk); (try clear hi); (try clear ho0)))
         (try simp only [Act.put, List.setIfInBounds_toArray, List.set_cons_zero, List.set_cons_succ])
         go_cut [70] (fun v70 wc => ∃ (kq : Nat) (x70_23 : Bool), v70 = .bool x70_23 ∧ Aside0 (stookref21_Scan.j3 kq l0 t441 t442 x70_23 (wrap64 (t437)) x441001_3 x441002_3 x441003_3 = some (r1, r2, r3, r4, r5)) ∧ Aside0 (kq ≤ k3) ∧ Aside0 (Kd.R (Kd.int .u8) 5 wc w.heap.size (fun _ => True) v444 t441) ∧ Aside0 (Kd.R (Kd.int .i64) 3 wc w.heap.size (fun _ => True) u441001 x441001_3) ∧ Aside0 (wc.heap[gb430]? = some (.cells #[.int .i64 x431000_3, (.slice none 0 0), .bool x431002_3, .int .i64 x431003_3] 33 (0, 0))) ∧ Aside0 (wc.heap[gb440]? = some (.cells #[.int .i64 (wrap64 (t437)), u441001, .bool x441002_3, .int .i64 x441003_3] 33 (0, 0))) ∧ Aside0 (Below w.heap.size w wc))
         case first =>
          have H := HC24.out
          clear HC24
          by_cases c28 : t443 = 0
          ·
           rw [if_pos c28] at H
           have c28b0 : (t443 == 0) = true := beq_iff_eq.mpr c28
           have c28b1 : (t443 != 0) = false := bne_eq_false_iff_eq.mpr c28
           clear c28
           (first | rw [c28b0] | (simp only [i64_w, i32_w]; rw [c28b0]) | skip)
           have H' := Aside0.mk H
           clear H
           obtain ⟨Ao29, co29, eo29⟩ := Kd.R_slice HO445.out
           subst eo29
           go_wp2
           go_meet
           case rel => exact ⟨_, (((t441.length : Int) == 0)), (by first | rfl | (simp; done) | (simp [*]; done)), H', ⟨by have := HJ2.out; have := HJ13.out; have := HK3.out; first | omega | exact Nat.le_refl _⟩, ⟨by (with_reducible repeat (first | apply Kd.R_alloc | apply Kd.R_drewN | apply Kd.R_drew)); exact HO445.out⟩, ⟨by (with_reducible repeat (first | apply Kd.R_alloc | apply Kd.R_drewN | apply Kd.R_drew)); exact HO_441001.out⟩, ⟨by (with_reducible repeat (first | refine blk_drewN ?_ _ | refine blk_drew ?_ | refine blk_alloc ?_ _)); exact BK430.out⟩, ⟨by (with_reducible repeat (first | refine blk_drewN ?_ _ | refine blk_drew ?_ | refine blk_alloc ?_ _)); exact BK440.out⟩, ⟨by repeat (first | (with_reducible first | exact HB.out | apply below_alloc | apply pw_below_drewN | apply below_drew1 | refine below_set ?_ GE430.out | refine below_set ?_ GE440.out) | exact HB.out)⟩⟩
          ·
           rw [if_neg c28] at H
           have c28b0 : (t443 == 0) = false := beq_eq_false_iff_ne.mpr c28
           have c28b1 : (t443 != 0) = true := bne_iff_ne.mpr c28
           (first | rw [c28b0] | (simp only [i64_w, i32_w]; rw [c28b0]) | skip)
           have H' := Aside0.mk H
           clear H
           go_wp2
           go_meet
           case rel => exact ⟨_, (true), (by first | rfl | (simp; done) | (simp [*]; done)), H', ⟨by have := HJ2.out; have := HJ13.out; have := HK3.out; first | omega | exact Nat.le_refl _⟩, ⟨by (with_reducible repeat (first | apply Kd.R_alloc | apply Kd.R_drewN | apply Kd.R_drew)); exact HO445.out⟩, ⟨by (with_reducible repeat (first | apply Kd.R_alloc | apply Kd.R_drewN | apply Kd.R_drew)); exact HO_441001.out⟩, ⟨by (with_reducible repeat (first | refine blk_drewN ?_ _ | refine blk_drew ?_ | refine blk_alloc ?_ _)); exact BK430.out⟩, ⟨by (with_reducible repeat (first | refine blk_drewN ?_ _ | refine blk_drew ?_ | refine blk_alloc ?_ _)); exact BK440.out⟩, ⟨by repeat (first | (with_reducible first | exact HB.out | apply below_alloc | apply pw_below_drewN | apply below_drew1 | refine below_set ?_ GE430.out | refine below_set ?_ GE440.out) | exact HB.out)⟩⟩
         case rest =>
          clear HC24
          try clear c1
          try clear c2
          try clear p2
          try clear c4
          try clear p4
          try clear q4
          try clear hx4
          try clear qi4
          try clear c6
          try clear c6b0
          try clear c6b1
          try clear p6
          try clear c7
          try clear c7b0
          try clear c7b1
          try clear c7b2
          try clear c9
          try clear c9b0
          try clear c9b1
          try clear c11
          try clear c16
          try clear c16b0
          try clear c16b1
          try clear c17
          try clear c17b0
          try clear c17b1
          try clear c18
          try clear c21
          try clear c25
          try clear c28
          try clear c28b0
          try clear c28b1
          try clear hcz12_0
          try clear hcz12_1
          try clear hcz12_2
          try clear hcz12_3
          try clear hcz19_0
          try clear hcz19_1
          try clear hcz19_2
          try clear hcz19_3
          try clear hcz22_0
          try clear hcz22_1
          try clear hcz22_2
          try clear hcz22_3
          try clear hcz26_0
          try clear hcz26_1
          try clear hcz26_2
          try clear hcz26_3
          try clear hfz12_0
          try clear hfz12_1
          try clear hfz12_2
          try clear hfz12_3
          try clear hfz19_0
          try clear hfz19_1
          try clear hfz19_2
          try clear hfz19_3
          try clear hfz22_0
          try clear hfz22_1
          try clear hfz22_2
          try clear hfz22_3
          try clear hfz26_0
          try clear hfz26_1
          try clear hfz26_2
          try clear hfz26_3
          try clear hx436_0
          try clear p2
          try clear p4
          try clear p436
          try clear p6
          try clear q4
          try clear q436
          obtain ⟨kq, x70_23, rfl, HA, HJ23, HO_10, HO_441001, BK430, BK440, HB⟩ := hcut
          cases kq with
          | zero => exact absurd HA.out (by simp [stookref21_Scan.j3])
          | succ kj23 =>
           have H := HA.out
           clear HA
           simp only [stookref21_Scan.j3] at H
           by_cases c30 : x70_23 = true
           ·
            subst c30
            have H1 : (some ((wrap64 (t437)), x441001_3, x441002_3, x441003_3, 0)) = some (r1, r2, r3, r4, r5) := by rw [if_pos rfl] at H; exact H
            clear H
            have H := H1
            clear H1
            simp only [Option.some.injEq, Prod.mk.injEq] at H
            obtain ⟨rfl, rfl, rfl, rfl, rfl⟩ := H
            have hnb31 := NB440_430.out
            have hnc31 := NB430_440.out
            have hcz32_0 : wc.cell? ⟨gb440, 0, none⟩ = some (.int .i64 (wrap64 (t437))) := (blk_cell BK440.out 0).trans rfl
            have hcz32_1 : wc.cell? ⟨gb440, 1, none⟩ = some (u441001) := (blk_cell BK440.out 1).trans rfl
            have hcz32_2 : wc.cell? ⟨gb440, 2, none⟩ = some (.bool x441002_3) := (blk_cell BK440.out 2).trans rfl
            have hcz32_3 : wc.cell? ⟨gb440, 3, none⟩ = some (.int .i64 x441003_3) := (blk_cell BK440.out 3).trans rfl
            have hfz32_0 := blk_frozen BK440.out 0
            have hfz32_1 := blk_frozen BK440.out 1
            have hfz32_2 := blk_frozen BK440.out 2
            have hfz32_3 := blk_frozen BK440.out 3
            have hcz33_0 : wc.cell? ⟨gb430, 0, none⟩ = some (.int .i64 x431000_3) := (blk_cell BK430.out 0).trans rfl
            have hcz33_1 : wc.cell? ⟨gb430, 1, none⟩ = some (.slice none 0 0) := (blk_cell BK430.out 1).trans rfl
            have hcz33_2 : wc.cell? ⟨gb430, 2, none⟩ = some (.bool x431002_3) := (blk_cell BK430.out 2).trans rfl
            have hcz33_3 : wc.cell? ⟨gb430, 3, none⟩ = some (.int .i64 x431003_3) := (blk_cell BK430.out 3).trans rfl
            have hfz33_0 := blk_frozen BK430.out 0
            have hfz33_1 := blk_frozen BK430.out 1
            have hfz33_2 := blk_frozen BK430.out 2
            have hfz33_3 := blk_frozen BK430.out 3
            obtain ⟨Ao34, co34, eo34⟩ := Kd.R_slice HO_441001.out
            subst eo34
            go_wp2
            refine bodyPost_ret (results_ct rfl _ _ gb430 33 #[.int .i64 (wrap64 (t437)), .slice Ao34 x441001_3.length co34, .bool x441002_3, .int .i64 x441003_3] (0, 0) _ rfl (by (with_reducible repeat (first | refine blk_drewN ?_ _ | refine blk_drew ?_ | refine blk_alloc ?_ _)); refine blk_put (cs := #[.int .i64 (wrap64 (t437)), .slice Ao34 x441001_3.length co34, .bool x441002_3, .int .i64 x431003_3]) ?_ 3 _ rfl; (with_reducible repeat (first | refine blk_drewN ?_ _ | refine blk_drew ?_ | refine blk_alloc ?_ _)); refine blk_put (cs := #[.int .i64 (wrap64 (t437)), .slice Ao34 x441001_3.length co34, .bool x431002_3, .int .i64 x431003_3]) ?_ 2 _ rfl; (with_reducible repeat (first | refine blk_drewN ?_ _ | refine blk_drew ?_ | refine blk_alloc ?_ _)); refine blk_put (cs := #[.int .i64 (wrap64 (t437)), .slice none 0 0, .bool x431002_3, .int .i64 x431003_3]) ?_ 1 _ rfl; (with_reducible repeat (first | refine blk_drewN ?_ _ | refine blk_drew ?_ | refine blk_alloc ?_ _)); refine blk_put (cs := #[.int .i64 x431000_3, .slice none 0 0, .bool x431002_3, .int .i64 x431003_3]) ?_ 0 _ rfl; (with_reducible repeat (first | refine blk_drewN ?_ _ | refine blk_drew ?_ | refine blk_alloc ?_ _)); exact BK430.out) Try.underlying33 rfl (by kernel_rfl)) rfl ?_
            exact ⟨_, by first | rfl | (simp [errW_none, errW_some] <;> rfl) | (simp [*, errW_none, errW_some] <;> rfl), by (with_reducible repeat (first | apply Kd.R_alloc | apply Kd.R_drewN | apply Kd.R_drew)); exact Kd.R_mono (Kd.R_far (p := ⟨gb430, 3, none⟩) (Kd.R_far (p := ⟨gb430, 2, none⟩) (Kd.R_far (p := ⟨gb430, 1, none⟩) (Kd.R_far (p := ⟨gb430, 0, none⟩) (Kd.R_types HO_441001.out BK430.out (by decide)) (fun _ hk => hk.2) (.int .i64 (wrap64 (t437)))) (fun _ hk => hk.2) (.slice Ao34 x441001_3.length co34)) (fun _ hk => hk.2) (.bool x441002_3)) (fun _ hk => hk.2) (.int .i64 x441003_3)) (fun _ hk => trivial), by repeat (first | (with_reducible first | exact HB.out | apply below_alloc | apply pw_below_drewN | apply below_drew1 | refine below_set ?_ GE430.out | refine below_set ?_ GE440.out) | exact HB.out)⟩
           ·
            replace c30 := Bool.eq_false_iff.mpr c30
            subst c30
            have H1 : (if 0 < (t441.length : Int) then (if (rd t441 0) = 102 then (if 0 ≤ x441003_3 then (if x441003_3 ≤ (l0.length : Int) then ((stookref21_foot.f kj23 (x441001_3.length : Int) (l0.take (x441003_3 : Int).toNat)).bind fun t448 => ((stookref00_Same.f kj23 t441 t448).bind fun t451 => (stookref21_Scan.j4 kj23 l0 t441 t442 t451 (wrap64 (t437)) x441001_3 x441002_3 x441003_3))) else (none)) else (none)) else (stookref21_Scan.j4 kj23 l0 t441 t442 false (wrap64 (t437)) x441001_3 x441002_3 x441003_3)) else (none)) = some (r1, r2, r3, r4, r5) := by rw [if_neg (show ¬ (false = true) by decide)] at H; exact H
            clear H
            have H := H1
            clear H1
            have HC35 := Aside0.mk H
            clear H
            go_upto_region 11 with (fail)
            go_cut [87] (fun v87 wc => ∃ (kq : Nat) (x87_34 : Bool), v87 = .bool x87_34 ∧ Aside0 (stookref21_Scan.j4 kq l0 t441 t442 x87_34 (wrap64 (t437)) x441001_3 x441002_3 x441003_3 = some (r1, r2, r3, r4, r5)) ∧ Aside0 (kq ≤ kj23) ∧ Aside0 (Kd.R (Kd.int .u8) 5 wc w.heap.size (fun _ => True) v444 t441) ∧ Aside0 (Kd.R (Kd.int .i64) 3 wc w.heap.size (fun _ => True) u441001 x441001_3) ∧ Aside0 (wc.heap[gb430]? = some (.cells #[.int .i64 x431000_3, (.slice none 0 0), .bool x431002_3, .int .i64 x431003_3] 33 (0, 0))) ∧ Aside0 (wc.heap[gb440]? = some (.cells #[.int .i64 (wrap64 (t437)), u441001, .bool x441002_3, .int .i64 x441003_3] 33 (0, 0))) ∧ Aside0 (Below w.heap.size w wc))
            case first =>
             have H := HC35.out
             clear HC35
             by_cases c36 : 0 < (t441.length : Int)
             ·
              rw [if_pos c36] at H
              have c36b0 : decide (0 < (t441.length : Int)) = true := decide_eq_true c36
              have c36b1 : decide (0 < t441.length) = true := decide_eq_true (by omega)
              clear c36
              (first | rw [c36b0] | (simp only [i64_w, i32_w]; rw [c36b0]) | skip)
              by_cases c37 : (rd t441 0) = 102
              ·
               rw [if_pos c37] at H
               have c37b0 : ((rd t441 0) == 102) = true := beq_iff_eq.mpr c37
               have c37b1 : ((rd t441 0) != 102) = false := bne_eq_false_iff_eq.mpr c37
               clear c37
               by_cases c38 : 0 ≤ x441003_3
               ·
                rw [if_pos c38] at H
                have c38b0 := eq_true c38
                have c38b1 : decide (0 ≤ x441003_3) = true := decide_eq_true c38
                clear c38
                by_cases c39 : x441003_3 ≤ (l0.length : Int)
                ·
                 rw [if_pos c39] at H
                 have c39b0 := eq_true c39
                 have c39b1 : decide (x441003_3 ≤ (l0.length : Int)) = true := decide_eq_true c39
                 clear c39
                 replace H := Option.bind_eq_some_iff.mp H
                 obtain ⟨t448, A400, H⟩ := H
                 replace H : ((stookref00_Same.f kj23 t441 t448).bind fun t451 => (stookref21_Scan.j4 kj23 l0 t441 t442 t451 (wrap64 (t437)) x441001_3 x441002_3 x441003_3)) = some (r1, r2, r3, r4, r5) := H
                 have A40 := Aside0.mk A400
                 clear A400
                 replace H := Option.bind_eq_some_iff.mp H
                 obtain ⟨t451, A410, H⟩ := H
                 replace H : (stookref21_Scan.j4 kj23 l0 t441 t442 t451 (wrap64 (t437)) x441001_3 x441002_3 x441003_3) = some (r1, r2, r3, r4, r5) := H
                 have A41 := Aside0.mk A410
                 clear A410
                 have H' := Aside0.mk H
                 clear H
                 try go_wp2
                 have n0_ := Aside0.mk (Kd.R_drew HO_10.out)
                 have n1_ := Aside0.mk (Kd.R_drew HO_441001.out)
                 have n2_ := Aside0.mk (blk_drew BK430.out)
                 have n3_ := Aside0.mk (blk_drew BK440.out)
                 have n4_ := Aside0.mk (below_drew1 HB.out)
                 clear HO_10
                 clear HO_441001
                 clear BK430
                 clear BK440
                 clear HB
                 have HO_10 := n0_
                 have HO_441001 := n1_
                 have BK430 := n2_
                 have BK440 := n3_
                 have HB := n4_
                 clear n0_ n1_ n2_ n3_ n4_
                 obtain ⟨Ao43, co43, eo43⟩ := Kd.R_slice HO_10.out
                 (first | subst eo43 | (injection eo43 with f1_ f2_ f3_; have f4_ := f1_.symm; have f5_ := f3_.symm; clear f1_ f2_ f3_; subst f4_; subst f5_))
                 have p446 : 0 ≤ (0 : Int) := (by omega)
                 have q446 : 0 < (t441.length : Int) := of_decide_eq_true (by first | (with_reducible assumption) | assumption)
                 obtain ⟨ad446, e446, hx446_0⟩ := Kd.at_int (Kd.R_reads' HO_10.out).2.2 0 p446 q446
                 cases e446
                 have qi446 : (0 < t441.length) = True := eq_true (by omega)
                 (try rw [show ((0 : Int)).toNat = 0 from rfl] at hx446_0)
                 (try rw [Addr.add_zero'] at hx446_0)
                 replace p446 := eq_true p446
                 replace q446 := eq_true q446
                 obtain ⟨Ao44, co44, eo44⟩ := Kd.R_slice HO_441001.out
                 (first | subst eo44 | (injection eo44 with f1_ f2_ f3_; have f4_ := f1_.symm; have f5_ := f3_.symm; clear f1_ f2_ f3_; subst f4_; subst f5_))
                 obtain ⟨i045, hi045, _, hsz45, _⟩ := info_parts info5
                 obtain ⟨hcut45, hA45, hC45⟩ := print_take_of (P := Try.prog) (Value.int .u8) 0 22 5 .i64 Try.underlying22 hi045 hsz45 A0 c0 l0 x441003_3 (of_decide_eq_true (by first | (with_reducible assumption) | assumption)) (of_decide_eq_true (by first | (with_reducible assumption) | assumption)) HC0.out
                 have HR447 := Aside0.mk (Kd.C_of_reads (h1 := fun _ => rfl) (hA45 _ (Kd.reads_of_C HR0.out)))
                 have HC447 := Aside0.mk hC45
                 clear hA45 hC45 hi045 hsz45
                 refine start_ (n := 16) (S := fun w' => w'.cell? ⟨gb440, 0, none⟩ = some (.int .i64 (wrap64 (t437))) ∧ w'.cell? ⟨gb440, 1, none⟩ = some (.slice Ao44 x441001_3.length co44) ∧ w'.cell? ⟨gb440, 2, none⟩ = some (.bool x441002_3) ∧ w'.cell? ⟨gb440, 3, none⟩ = some (.int .i64 x441003_3) ∧ w'.cell? ad446 = some (.int .u8 (rd t441 0))) (ds := []) b12q0 (by kernel_rfl) rfl rfl ⟨(blk_cell BK440.out 0).trans rfl, (blk_cell BK440.out 1).trans rfl, (blk_cell BK440.out 2).trans rfl, (blk_cell BK440.out 3).trans rfl, hx446_0⟩ (fun hHeld => ?_); refine with_tabW stookref21_Scan.tab11 stookref21_Scan.bits11 (fun HT_ HW_ => ?_)
                 generalize wc.drew = w42 at HO_10 HO_441001 BK430 BK440 HB HR447 hx446_0 hHeld ⊢
                 refine pure_ (i := 0) (N := some 72) (v := ?_) (a' := ?_) b12q1 rfl rfl (any_of HT_.out (by kernel_rfl)) (fun _ _ _ h => h) (Or.inl ⟨by rfl, ?_⟩) ?_ ?_; rotate_left; (focus (intro w'; go_simp; with_reducible rfl)); rotate_left; (focus (simp only [Act.put, List.setIfInBounds_toArray, List.set_cons_zero, List.set_cons_succ, i64_w, i32_w]; rfl))
                 refine pure_ (i := 1) (N := some 73) (v := ?_) (a' := ?_) b12q2 rfl rfl (any_of HT_.out (by kernel_rfl)) (fun _ _ _ h => h) (Or.inl ⟨by rfl, ?_⟩) ?_ ?_; rotate_left; (focus (intro w'; go_simp; with_reducible rfl)); rotate_left; (focus (simp only [Act.put, List.setIfInBounds_toArray, List.set_cons_zero, List.set_cons_succ, i64_w, i32_w]; rfl))
                 refine take_ (i := 2) (N := some 74) (v := ?_) (a' := ?_) b12q3 rfl rfl (take_ofW HT_.out HW_.out (by kernel_rfl)) (fun _ _ _ h => h) (Or.inl ⟨by rfl, ?_⟩) hHeld ?_ ?_
                 rotate_left
                 ·
                  rintro w' ⟨s0, s1, s2, s3, s4⟩
                  go_simp
                  with_reducible rfl
                 rotate_left
                 ·
                  simp only [Act.put, List.setIfInBounds_toArray, List.set_cons_zero, List.set_cons_succ, i64_w, i32_w]
                  rfl
                 refine pure_ (i := 3) (N := some 75) (v := ?_) (a' := ?_) b12q4 rfl rfl (any_of HT_.out (by kernel_rfl)) (fun _ _ _ h => h) (Or.inl ⟨by rfl, ?_⟩) ?_ ?_; rotate_left; (focus (intro w'; go_simp; with_reducible rfl)); rotate_left; (focus (simp only [Act.put, List.setIfInBounds_toArray, List.set_cons_zero, List.set_cons_succ, i64_w, i32_w]; rfl))
                 refine pure_ (i := 4) (N := some 76) (v := ?_) (a' := ?_) b12q5 rfl rfl (any_of HT_.out (by kernel_rfl)) (fun _ _ _ h => h) (Or.inl ⟨by rfl, ?_⟩) ?_ ?_; rotate_left; (focus (intro w'; go_simp; with_reducible rfl)); rotate_left; (focus (simp only [Act.put, List.setIfInBounds_toArray, List.set_cons_zero, List.set_cons_succ, i64_w, i32_w]; rfl))
                 refine pure_ (i := 5) (N := some 77) (v := ?_) (a' := ?_) b12q6 rfl rfl (any_of HT_.out (by kernel_rfl)) (fun _ _ _ h => h) (Or.inl ⟨by rfl, ?_⟩) ?_ ?_; rotate_left; (focus (intro w'; go_simp; with_reducible rfl)); rotate_left; (focus (simp only [Act.put, List.setIfInBounds_toArray, List.set_cons_zero, List.set_cons_succ, i64_w, i32_w]; rfl))
                 refine pure_ (i := 6) (N := some 78) (v := ?_) (a' := ?_) b12q7 rfl rfl (any_of HT_.out (by kernel_rfl)) (fun _ _ _ h => h) (Or.inl ⟨by rfl, ?_⟩) ?_ ?_; rotate_left; (focus (intro w'; go_simp; with_reducible rfl)); rotate_left; (focus (simp only [Act.put, List.setIfInBounds_toArray, List.set_cons_zero, List.set_cons_succ, i64_w, i32_w]; rfl))
                 refine pure_ (i := 9) (N := some 81) (v := ?_) (a' := ?_) b12q8 rfl rfl (any_of HT_.out (by kernel_rfl)) (fun _ _ _ h => h) (Or.inl ⟨by rfl, ?_⟩) ?_ ?_; rotate_left; (focus (intro w'; go_simp; with_reducible rfl)); rotate_left; (focus (simp only [Act.put, List.setIfInBounds_toArray, List.set_cons_zero, List.set_cons_succ, i64_w, i32_w]; rfl))
                 refine pure_ (i := 10) (N := some 82) (v := ?_) (a' := ?_) b12q9 rfl rfl (any_of HT_.out (by kernel_rfl)) (fun _ _ _ h => h) (Or.inl ⟨by rfl, ?_⟩) ?_ ?_; rotate_left; (focus (intro w'; go_simp; with_reducible rfl)); rotate_left; (focus (simp only [Act.put, List.setIfInBounds_toArray, List.set_cons_zero, List.set_cons_succ, i64_w, i32_w]; rfl))
                 refine take_ (i := 7) (N := some 79) (v := ?_) (a' := ?_) b12q10 rfl rfl (take_ofW HT_.out HW_.out (by kernel_rfl)) (fun _ _ _ h => h) (Or.inl ⟨by rfl, ?_⟩) hHeld ?_ ?_
                 rotate_left
                 ·
                  rintro w' ⟨s0, s1, s2, s3, s4⟩
                  go_simp
                  with_reducible rfl
                 rotate_left
                 ·
                  simp only [Act.put, List.setIfInBounds_toArray, List.set_cons_zero, List.set_cons_succ, i64_w, i32_w]
                  rfl
                 refine pure_ (i := 8) (N := some 80) (v := ?_) (a' := ?_) b12q11 rfl rfl (any_of HT_.out (by kernel_rfl)) (fun _ _ _ h => h) (Or.inl ⟨by rfl, ?_⟩) ?_ ?_; rotate_left; (focus (intro w'; go_simp; with_reducible rfl)); rotate_left; (focus (simp only [Act.put, List.setIfInBounds_toArray, List.set_cons_zero, List.set_cons_succ, i64_w, i32_w]; rfl))
                 refine take_ (i := 11) (N := some 83) (v := ?_) (a' := ?_) b12q12 rfl rfl (take_ofW HT_.out HW_.out (by kernel_rfl)) (fun _ _ _ h => h) (Or.inl ⟨by rfl, ?_⟩) hHeld ?_ ?_
                 rotate_left
                 ·
                  rintro w' ⟨s0, s1, s2, s3, s4⟩
                  go_simp
                  with_reducible rfl
                 rotate_left
                 ·
                  simp only [Act.put, List.setIfInBounds_toArray, List.set_cons_zero, List.set_cons_succ, i64_w, i32_w]
                  rfl
                 refine pure_ (i := 12) (N := some 84) (v := ?_) (a' := ?_) b12q13 rfl rfl (any_of HT_.out (by kernel_rfl)) (fun _ _ _ h => h) (Or.inl ⟨by rfl, ?_⟩) ?_ ?_; rotate_left; (focus (intro w'; go_simp; with_reducible rfl)); rotate_left; (focus (simp only [Act.put, List.setIfInBounds_toArray, List.set_cons_zero, List.set_cons_succ, i64_w, i32_w]; rfl))
                 refine one_ (i := 13) (N := some 85) b12q14 rfl rfl (one_of HT_.out (by kernel_rfl)) (by decide) (fun K hK => ?_)
                 refine goes_ Try.func42 (by kernel_rfl) rfl #[.int .i64 (x441001_3.length : Int), .slice A0 (l0.take (x441003_3 : Int).toNat).length c0] (by rfl) rfl rfl (by (try simp only [List.map_toArray, List.map_cons, List.map_nil]); first | done | (rw [show (l0.take (x441003_3 : Int).toNat).length = x441003_3.toNat from (by rw [List.length_take]; have h_ : (x441003_3 : Int) ≤ (l0.length : Int) := of_decide_eq_true (by first | (with_reducible assumption) | assumption); omega)] <;> rfl) | rfl | (simp only [List.length_drop, List.length_take]; rfl)) ?_
                 with_reducible refine (stookref21_foot.calls kj23 (x441001_3.length : Int) _ _ (l0.take (x441003_3 : Int).toNat) t448 _ ?side1 ?side2 A40.out).mono ?_
                 (case side1 => repeat (first | exact (Kd.C_below HR447.out HB.out) | (with_reducible refine Kd.C_alloc ?_ _) | (with_reducible refine Kd.C_drewN ?_ _) | (with_reducible refine Kd.C_drew ?_)))
                 (case side2 => exact HC447.out)
                 rintro e w46 ⟨v449, rfl, ho0, hb⟩
                 have HS4_ := (hb.cell (World.block_lt_of_cell? _ _ (hHeld.2.2.2.2))).trans (hHeld.2.2.2.2)
                 refine ⟨_, rfl, ?_⟩
                 have n0_ := Aside0.mk (Kd.R_elder' (by (with_reducible repeat (first | apply Kd.R_alloc | apply Kd.R_drewN | apply Kd.R_drew)); exact HO_10.out) (Kd.R_base ho0) hb)
                 have n1_ := Aside0.mk (Kd.R_below (by (with_reducible repeat (first | apply Kd.R_alloc | apply Kd.R_drewN | apply Kd.R_drew)); exact HO_441001.out) hb)
                 have n2_ := Aside0.mk (Kd.R_lower (Kd.R_new' ho0 (Kd.R_lt (by (with_reducible repeat (first | apply Kd.R_alloc | apply Kd.R_drewN | apply Kd.R_drew)); exact HO_10.out))) (below_size (by repeat (first | (with_reducible first | exact HB.out | apply below_alloc | apply pw_below_drewN | apply below_drew1 | refine below_set ?_ GE430.out | refine below_set ?_ GE440.out) | exact HB.out))))
                 have n3_ := Aside0.mk (blk_below (g := gb430) (o := .cells #[.int .i64 x431000_3, .slice none 0 0, .bool x431002_3, .int .i64 x431003_3] 33 (0, 0)) (by (with_reducible repeat (first | refine blk_drewN ?_ _ | refine blk_drew ?_ | refine blk_alloc ?_ _)); exact BK430.out) hb)
                 have n4_ := Aside0.mk (blk_below (g := gb440) (o := .cells #[.int .i64 (wrap64 (t437)), .slice Ao44 x441001_3.length co44, .bool x441002_3, .int .i64 x441003_3] 33 (0, 0)) (by (with_reducible repeat (first | refine blk_drewN ?_ _ | refine blk_drew ?_ | refine blk_alloc ?_ _)); exact BK440.out) hb)
                 have n5_ := Aside0.mk (below_step (by repeat (first | (with_reducible first | exact HB.out | apply below_alloc | apply pw_below_drewN | apply below_drew1 | refine below_set ?_ GE430.out | refine below_set ?_ GE440.out) | exact HB.out)) hb)
                 clear HO_10
                 clear HO_441001
                 clear BK430
                 clear BK440
                 clear HB
                 have HO_10 := n0_
                 have HO_441001 := n1_
                 have HO450 := n2_
                 have BK430 := n3_
                 have BK440 := n4_
                 have HB := n5_
                 clear n0_ n1_ n2_ n3_ n4_ n5_
                 (try clear hb)
                 (try clear hb2)
                 (try clear hk)
                 (try clear hi)
                 (try clear ho0)
                 obtain ⟨Ao47, co47, eo47⟩ := Kd.R_slice HO450.out
                 (first | subst eo47 | (injection eo47 with f1_ f2_ f3_; have f4_ := f1_.symm; have f5_ := f3_.symm; clear f1_ f2_ f3_; subst f4_; subst f5_))
                 refine hK.out _ _ ⟨(blk_cell BK440.out 0).trans rfl, (blk_cell BK440.out 1).trans rfl, (blk_cell BK440.out 2).trans rfl, (blk_cell BK440.out 3).trans rfl, HS4_⟩ (fun hHeld => ?_)
                 clear hK K
                 refine norm_ (a' := ?_) ?_ ?_
                 rotate_left
                 ·
                  show Act.put _ (some 85) _ = _
                  simp only [Act.put, List.setIfInBounds_toArray, List.set_cons_zero, List.set_cons_succ, i64_w, i32_w]
                  rfl
                 refine one_ (i := 14) (N := some 86) b12q15 rfl rfl (one_of HT_.out (by kernel_rfl)) (by decide) (fun K hK => ?_)
                 refine goes_ Try.func13 (by kernel_rfl) rfl #[.slice (some ad446) t441.length co43, .slice Ao47 t448.length co47] (by rfl) rfl rfl (by (try simp only [List.map_toArray, List.map_cons, List.map_nil]); first | done | rfl | (simp only [List.length_drop, List.length_take]; rfl)) ?_
                 with_reducible refine (stookref00_Same.calls kj23 _ _ t441 _ _ t448 t451 _ ?side1 ?side2 ?side3 ?side4 A41.out).mono ?_
                 (case side1 => repeat (first | exact (Kd.R_reads' HO_10.out).2.2 | (with_reducible refine Kd.C_alloc ?_ _) | (with_reducible refine Kd.C_drewN ?_ _) | (with_reducible refine Kd.C_drew ?_)))
                 (case side2 => exact (Kd.R_reads' HO_10.out).2.1)
                 (case side3 => repeat (first | exact (Kd.R_reads' HO450.out).2.2 | (with_reducible refine Kd.C_alloc ?_ _) | (with_reducible refine Kd.C_drewN ?_ _) | (with_reducible refine Kd.C_drew ?_)))
                 (case side4 => exact (Kd.R_reads' HO450.out).2.1)
                 rintro e w' ⟨rfl, ⟨nd, rfl⟩⟩
                 refine ⟨_, rfl, ?_⟩
                 refine hK.out _ _ ⟨(blk_cell BK440.out 0).trans rfl, (blk_cell BK440.out 1).trans rfl, (blk_cell BK440.out 2).trans rfl, (blk_cell BK440.out 3).trans rfl, hHeld.2.2.2.2⟩ (fun hHeld => ?_)
                 clear hK K
                 refine norm_ (a' := ?_) ?_ ?_
                 rotate_left
                 ·
                  show Act.put _ (some 86) _ = _
                  simp only [Act.put, List.setIfInBounds_toArray, List.set_cons_zero, List.set_cons_succ, i64_w, i32_w]
                  rfl
                 refine pure_ (i := 15) (N := some 87) (v := ?_) (a' := ?_) b12q16 rfl rfl (any_of HT_.out (by kernel_rfl)) (fun _ _ _ h => h) (Or.inl ⟨by rfl, ?_⟩) ?_ ?_; rotate_left; (focus (intro w'; go_simp; with_reducible rfl)); rotate_left; (focus (simp only [Act.put, List.setIfInBounds_toArray, List.set_cons_zero, List.set_cons_succ, i64_w, i32_w]; rfl))
                 refine done_ (done_of HT_.out (by kernel_rfl)) ?_
                 try go_wp2
                 go_meet
                 case rel => exact ⟨_, (t451), (by first | rfl | (simp; done) | (simp [*]; done)), H', ⟨by have := HJ2.out; have := HJ13.out; have := HK3.out; have := HJ23.out; first | omega | exact Nat.le_refl _⟩, ⟨by (with_reducible repeat (first | apply Kd.R_alloc | apply Kd.R_drewN | apply Kd.R_drew)); exact Kd.R_mono HO_10.out (fun _ hk => trivial)⟩, ⟨by (with_reducible repeat (first | apply Kd.R_alloc | apply Kd.R_drewN | apply Kd.R_drew)); exact HO_441001.out⟩, ⟨by (with_reducible repeat (first | refine blk_drewN ?_ _ | refine blk_drew ?_ | refine blk_alloc ?_ _)); exact BK430.out⟩, ⟨by (with_reducible repeat (first | refine blk_drewN ?_ _ | refine blk_drew ?_ | refine blk_alloc ?_ _)); exact BK440.out⟩, ⟨by repeat (first | (with_reducible first | exact HB.out | apply below_alloc | apply pw_below_drewN | apply below_drew1 | refine below_set ?_ GE430.out | refine below_set ?_ GE440.out) | exact HB.out)⟩⟩
                ·
                 rw [if_neg c39] at H
                 exact absurd H (by simp)
               ·
                rw [if_neg c38] at H
                exact absurd H (by simp)
              ·
               rw [if_neg c37] at H
               have c37b0 : ((rd t441 0) == 102) = false := beq_eq_false_iff_ne.mpr c37
               have c37b1 : ((rd t441 0) != 102) = true := bne_iff_ne.mpr c37
               have H' := Aside0.mk H
               clear H
               try go_wp2
               have n0_ := Aside0.mk (Kd.R_drew HO_10.out)
               have n1_ := Aside0.mk (Kd.R_drew HO_441001.out)
               have n2_ := Aside0.mk (blk_drew BK430.out)
               have n3_ := Aside0.mk (blk_drew BK440.out)
               have n4_ := Aside0.mk (below_drew1 HB.out)
               clear HO_10
               clear HO_441001
               clear BK430
               clear BK440
               clear HB
               have HO_10 := n0_
               have HO_441001 := n1_
               have BK430 := n2_
               have BK440 := n3_
               have HB := n4_
               clear n0_ n1_ n2_ n3_ n4_
               obtain ⟨Ao49, co49, eo49⟩ := Kd.R_slice HO_10.out
               (first | subst eo49 | (injection eo49 with f1_ f2_ f3_; have f4_ := f1_.symm; have f5_ := f3_.symm; clear f1_ f2_ f3_; subst f4_; subst f5_))
               have p446 : 0 ≤ (0 : Int) := (by omega)
               have q446 : 0 < (t441.length : Int) := of_decide_eq_true (by first | (with_reducible assumption) | assumption)
               obtain ⟨ad446, e446, hx446_0⟩ := Kd.at_int (Kd.R_reads' HO_10.out).2.2 0 p446 q446
               cases e446
               have qi446 : (0 < t441.length) = True := eq_true (by omega)
               (try rw [show ((0 : Int)).toNat = 0 from rfl] at hx446_0)
               (try rw [Addr.add_zero'] at hx446_0)
               replace p446 := eq_true p446
               replace q446 := eq_true q446
               refine start_ (n := 16) (S := fun w' => w'.cell? ad446 = some (.int .u8 (rd t441 0))) (ds := []) b12q0 (by kernel_rfl) rfl rfl (hx446_0) (fun hHeld => ?_); refine with_tabW stookref21_Scan.tab11 stookref21_Scan.bits11 (fun HT_ HW_ => ?_)
               generalize wc.drew = w48 at HO_10 HO_441001 BK430 BK440 HB hx446_0 hHeld ⊢
               refine pure_ (i := 0) (N := some 72) (v := ?_) (a' := ?_) b12q1 rfl rfl (any_of HT_.out (by kernel_rfl)) (fun _ _ _ h => h) (Or.inl ⟨by rfl, ?_⟩) ?_ ?_; rotate_left; (focus (intro w'; go_simp; with_reducible rfl)); rotate_left; (focus (simp only [Act.put, List.setIfInBounds_toArray, List.set_cons_zero, List.set_cons_succ, i64_w, i32_w]; rfl))
               refine pure_ (i := 1) (N := some 73) (v := ?_) (a' := ?_) b12q2 rfl rfl (any_of HT_.out (by kernel_rfl)) (fun _ _ _ h => h) (Or.inl ⟨by rfl, ?_⟩) ?_ ?_; rotate_left; (focus (intro w'; go_simp; with_reducible rfl)); rotate_left; (focus (simp only [Act.put, List.setIfInBounds_toArray, List.set_cons_zero, List.set_cons_succ, i64_w, i32_w]; rfl))
               refine take_ (i := 2) (N := some 74) (v := ?_) (a' := ?_) b12q3 rfl rfl (take_ofW HT_.out HW_.out (by kernel_rfl)) (fun _ _ _ h => h) (Or.inl ⟨by rfl, ?_⟩) hHeld ?_ ?_
               rotate_left
               ·
                intro w' s0
                go_simp
                with_reducible rfl
               rotate_left
               ·
                simp only [Act.put, List.setIfInBounds_toArray, List.set_cons_zero, List.set_cons_succ, i64_w, i32_w]
                rfl
               refine pure_ (i := 3) (N := some 75) (v := ?_) (a' := ?_) b12q4 rfl rfl (any_of HT_.out (by kernel_rfl)) (fun _ _ _ h => h) (Or.inl ⟨by rfl, ?_⟩) ?_ ?_; rotate_left; (focus (intro w'; go_simp; with_reducible rfl)); rotate_left; (focus (simp only [Act.put, List.setIfInBounds_toArray, List.set_cons_zero, List.set_cons_succ, i64_w, i32_w]; rfl))
               refine pure_ (i := 4) (N := some 76) (v := ?_) (a' := ?_) b12q5 rfl rfl (any_of HT_.out (by kernel_rfl)) (fun _ _ _ h => h) (Or.inl ⟨by rfl, ?_⟩) ?_ ?_; rotate_left; (focus (intro w'; go_simp; with_reducible rfl)); rotate_left; (focus (simp only [Act.put, List.setIfInBounds_toArray, List.set_cons_zero, List.set_cons_succ, i64_w, i32_w]; rfl))
               refine pure_ (i := 5) (N := some 77) (v := undef) (a' := ?_) b12q6 rfl rfl (any_of HT_.out (by kernel_rfl)) (fun _ _ _ h => h) (Or.inr ⟨by rfl, rfl⟩) ?_ ?_; rotate_left; (focus (simp only [Act.put, List.setIfInBounds_toArray, List.set_cons_zero, List.set_cons_succ, i64_w, i32_w]; rfl))
               refine pure_ (i := 6) (N := some 78) (v := undef) (a' := ?_) b12q7 rfl rfl (any_of HT_.out (by kernel_rfl)) (fun _ _ _ h => h) (Or.inr ⟨by rfl, rfl⟩) ?_ ?_; rotate_left; (focus (simp only [Act.put, List.setIfInBounds_toArray, List.set_cons_zero, List.set_cons_succ, i64_w, i32_w]; rfl))
               refine pure_ (i := 7) (N := some 79) (v := undef) (a' := ?_) b12q17 rfl rfl (any_of HT_.out (by kernel_rfl)) (fun _ _ _ h => h) (Or.inr ⟨by rfl, rfl⟩) ?_ ?_; rotate_left; (focus (simp only [Act.put, List.setIfInBounds_toArray, List.set_cons_zero, List.set_cons_succ, i64_w, i32_w]; rfl))
               refine pure_ (i := 8) (N := some 80) (v := undef) (a' := ?_) b12q18 rfl rfl (any_of HT_.out (by kernel_rfl)) (fun _ _ _ h => h) (Or.inr ⟨by rfl, rfl⟩) ?_ ?_; rotate_left; (focus (simp only [Act.put, List.setIfInBounds_toArray, List.set_cons_zero, List.set_cons_succ, i64_w, i32_w]; rfl))
               refine pure_ (i := 9) (N := some 81) (v := undef) (a' := ?_) b12q19 rfl rfl (any_of HT_.out (by kernel_rfl)) (fun _ _ _ h => h) (Or.inr ⟨by rfl, rfl⟩) ?_ ?_; rotate_left; (focus (simp only [Act.put, List.setIfInBounds_toArray, List.set_cons_zero, List.set_cons_succ, i64_w, i32_w]; rfl))
               refine pure_ (i := 10) (N := some 82) (v := undef) (a' := ?_) b12q11 rfl rfl (any_of HT_.out (by kernel_rfl)) (fun _ _ _ h => h) (Or.inr ⟨by rfl, rfl⟩) ?_ ?_; rotate_left; (focus (simp only [Act.put, List.setIfInBounds_toArray, List.set_cons_zero, List.set_cons_succ, i64_w, i32_w]; rfl))
               refine pure_ (i := 11) (N := some 83) (v := undef) (a' := ?_) b12q12 rfl rfl (any_of HT_.out (by kernel_rfl)) (fun _ _ _ h => h) (Or.inr ⟨by rfl, rfl⟩) ?_ ?_; rotate_left; (focus (simp only [Act.put, List.setIfInBounds_toArray, List.set_cons_zero, List.set_cons_succ, i64_w, i32_w]; rfl))
               refine pure_ (i := 12) (N := some 84) (v := undef) (a' := ?_) b12q13 rfl rfl (any_of HT_.out (by kernel_rfl)) (fun _ _ _ h => h) (Or.inr ⟨by rfl, rfl⟩) ?_ ?_; rotate_left; (focus (simp only [Act.put, List.setIfInBounds_toArray, List.set_cons_zero, List.set_cons_succ, i64_w, i32_w]; rfl))
               refine pure_ (i := 13) (N := some 85) (v := undef) (a' := ?_) b12q14 rfl rfl (any_of HT_.out (by kernel_rfl)) (fun _ _ _ h => h) (Or.inr ⟨by rfl, rfl⟩) ?_ ?_; rotate_left; (focus (simp only [Act.put, List.setIfInBounds_toArray, List.set_cons_zero, List.set_cons_succ, i64_w, i32_w]; rfl))
               refine pure_ (i := 14) (N := some 86) (v := undef) (a' := ?_) b12q15 rfl rfl (any_of HT_.out (by kernel_rfl)) (fun _ _ _ h => h) (Or.inr ⟨by rfl, rfl⟩) ?_ ?_; rotate_left; (focus (simp only [Act.put, List.setIfInBounds_toArray, List.set_cons_zero, List.set_cons_succ, i64_w, i32_w]; rfl))
               refine pure_ (i := 15) (N := some 87) (v := ?_) (a' := ?_) b12q16 rfl rfl (any_of HT_.out (by kernel_rfl)) (fun _ _ _ h => h) (Or.inl ⟨by rfl, ?_⟩) ?_ ?_; rotate_left; (focus (intro w'; go_simp; with_reducible rfl)); rotate_left; (focus (simp only [Act.put, List.setIfInBounds_toArray, List.set_cons_zero, List.set_cons_succ, i64_w, i32_w]; rfl))
               refine done_ (done_of HT_.out (by kernel_rfl)) ?_
               try go_wp2
               go_meet
               case rel => exact ⟨_, (false), (by first | rfl | (simp; done) | (simp [*]; done)), H', ⟨by have := HJ2.out; have := HJ13.out; have := HK3.out; have := HJ23.out; first | omega | exact Nat.le_refl _⟩, ⟨by (with_reducible repeat (first | apply Kd.R_alloc | apply Kd.R_drewN | apply Kd.R_drew)); exact HO_10.out⟩, ⟨by (with_reducible repeat (first | apply Kd.R_alloc | apply Kd.R_drewN | apply Kd.R_drew)); exact HO_441001.out⟩, ⟨by (with_reducible repeat (first | refine blk_drewN ?_ _ | refine blk_drew ?_ | refine blk_alloc ?_ _)); exact BK430.out⟩, ⟨by (with_reducible repeat (first | refine blk_drewN ?_ _ | refine blk_drew ?_ | refine blk_alloc ?_ _)); exact BK440.out⟩, ⟨by repeat (first | (with_reducible first | exact HB.out | apply below_alloc | apply pw_below_drewN | apply below_drew1 | refine below_set ?_ GE430.out | refine below_set ?_ GE440.out) | exact HB.out)⟩⟩
             ·
              rw [if_neg c36] at H
              exact absurd H (by simp)
            case rest =>
             clear HC35
             try clear c1
             try clear c2
             try clear p2
             try clear c3
             try clear c4
             try clear p4
             try clear q4
             try clear hx4
             try clear qi4
             try clear c6
             try clear c6b0
             try clear c6b1
             try clear p6
             try clear c7
             try clear c7b0
             try clear c7b1
             try clear c7b2
             try clear c9
             try clear c9b0
             try clear c9b1
             try clear c11
             try clear c13
             try clear c16
             try clear c16b0
             try clear c16b1
             try clear c17
             try clear c17b0
             try clear c17b1
             try clear c18
             try clear c21
             try clear c25
             try clear c28
             try clear c28b0
             try clear c28b1
             try clear c30
             try clear c31
             try clear c36
             try clear c36b0
             try clear c36b1
             try clear c37
             try clear c37b0
             try clear c37b1
             try clear c38
             try clear c38b0
             try clear c38b1
             try clear c39
             try clear c39b0
             try clear c39b1
             try clear c40
             try clear c42
             try clear p43
             try clear q43
             try clear hx43
             try clear p44
             try clear q44
             try clear hx44
             try clear qi44
             try clear hcz12_0
             try clear hcz12_1
             try clear hcz12_2
             try clear hcz12_3
             try clear hcz19_0
             try clear hcz19_1
             try clear hcz19_2
             try clear hcz19_3
             try clear hcz22_0
             try clear hcz22_1
             try clear hcz22_2
             try clear hcz22_3
             try clear hcz26_0
             try clear hcz26_1
             try clear hcz26_2
             try clear hcz26_3
             try clear hcz32_0
             try clear hcz32_1
             try clear hcz32_2
             try clear hcz32_3
             try clear hcz33_0
             try clear hcz33_1
             try clear hcz33_2
             try clear hcz33_3
             try clear hfz12_0
             try clear hfz12_1
             try clear hfz12_2
             try clear hfz12_3
             try clear hfz19_0
             try clear hfz19_1
             try clear hfz19_2
             try clear hfz19_3
             try clear hfz22_0
             try clear hfz22_1
             try clear hfz22_2
             try clear hfz22_3
             try clear hfz26_0
             try clear hfz26_1
             try clear hfz26_2
             try clear hfz26_3
             try clear hfz32_0
             try clear hfz32_1
             try clear hfz32_2
             try clear hfz32_3
             try clear hfz33_0
             try clear hfz33_1
             try clear hfz33_2
             try clear hfz33_3
             try clear hx436_0
             try clear hx446_0
             try clear p2
             try clear p4
             try clear p436
             try clear p446
             try clear p6
             try clear q4
             try clear q436
             try clear q446
             obtain ⟨kq, x87_34, rfl, HA, HJ34, HO_10, HO_441001, BK430, BK440, HB⟩ := hcut
             cases kq with
             | zero => exact absurd HA.out (by simp [stookref21_Scan.j4])
             | succ kj34 =>
              have H := HA.out
              clear HA
              simp only [stookref21_Scan.j4] at H
              by_cases c50 : x87_34 = true
              ·
               subst c50
               have H1 : (some ((wrap64 (t437)), x441001_3, true, t442, 0)) = some (r1, r2, r3, r4, r5) := by rw [if_pos rfl] at H; exact H
               clear H
               have H := H1
               clear H1
               simp only [Option.some.injEq, Prod.mk.injEq] at H
               obtain ⟨rfl, rfl, rfl, rfl, rfl⟩ := H
               have hnb51 := NB440_430.out
               have hnc51 := NB430_440.out
               have hcz52_0 : wc.cell? ⟨gb440, 0, none⟩ = some (.int .i64 (wrap64 (t437))) := (blk_cell BK440.out 0).trans rfl
               have hcz52_1 : wc.cell? ⟨gb440, 1, none⟩ = some (u441001) := (blk_cell BK440.out 1).trans rfl
               have hcz52_2 : wc.cell? ⟨gb440, 2, none⟩ = some (.bool x441002_3) := (blk_cell BK440.out 2).trans rfl
               have hcz52_3 : wc.cell? ⟨gb440, 3, none⟩ = some (.int .i64 x441003_3) := (blk_cell BK440.out 3).trans rfl
               have hfz52_0 := blk_frozen BK440.out 0
               have hfz52_1 := blk_frozen BK440.out 1
               have hfz52_2 := blk_frozen BK440.out 2
               have hfz52_3 := blk_frozen BK440.out 3
               have hcz53_0 : wc.cell? ⟨gb430, 0, none⟩ = some (.int .i64 x431000_3) := (blk_cell BK430.out 0).trans rfl
               have hcz53_1 : wc.cell? ⟨gb430, 1, none⟩ = some (.slice none 0 0) := (blk_cell BK430.out 1).trans rfl
               have hcz53_2 : wc.cell? ⟨gb430, 2, none⟩ = some (.bool x431002_3) := (blk_cell BK430.out 2).trans rfl
               have hcz53_3 : wc.cell? ⟨gb430, 3, none⟩ = some (.int .i64 x431003_3) := (blk_cell BK430.out 3).trans rfl
               have hfz53_0 := blk_frozen BK430.out 0
               have hfz53_1 := blk_frozen BK430.out 1
               have hfz53_2 := blk_frozen BK430.out 2
               have hfz53_3 := blk_frozen BK430.out 3
               obtain ⟨Ao54, co54, eo54⟩ := Kd.R_slice HO_441001.out
               subst eo54
               go_wp2
               refine bodyPost_ret (results_ct rfl _ _ gb430 33 #[.int .i64 (wrap64 (t437)), .slice Ao54 x441001_3.length co54, .bool true, .int .i64 t442] (0, 0) _ rfl (by (with_reducible repeat (first | refine blk_drewN ?_ _ | refine blk_drew ?_ | refine blk_alloc ?_ _)); refine blk_put (cs := #[.int .i64 (wrap64 (t437)), .slice Ao54 x441001_3.length co54, .bool true, .int .i64 x431003_3]) ?_ 3 _ rfl; (with_reducible repeat (first | refine blk_drewN ?_ _ | refine blk_drew ?_ | refine blk_alloc ?_ _)); refine blk_put (cs := #[.int .i64 (wrap64 (t437)), .slice Ao54 x441001_3.length co54, .bool x431002_3, .int .i64 x431003_3]) ?_ 2 _ rfl; (with_reducible repeat (first | refine blk_drewN ?_ _ | refine blk_drew ?_ | refine blk_alloc ?_ _)); refine blk_put (cs := #[.int .i64 (wrap64 (t437)), .slice none 0 0, .bool x431002_3, .int .i64 x431003_3]) ?_ 1 _ rfl; (with_reducible repeat (first | refine blk_drewN ?_ _ | refine blk_drew ?_ | refine blk_alloc ?_ _)); refine blk_put (cs := #[.int .i64 x431000_3, .slice none 0 0, .bool x431002_3, .int .i64 x431003_3]) ?_ 0 _ rfl; (with_reducible repeat (first | refine blk_drewN ?_ _ | refine blk_drew ?_ | refine blk_alloc ?_ _)); refine blk_far ?_ NB430_440.out _; (with_reducible repeat (first | refine blk_drewN ?_ _ | refine blk_drew ?_ | refine blk_alloc ?_ _)); refine blk_far ?_ NB430_440.out _; (with_reducible repeat (first | refine blk_drewN ?_ _ | refine blk_drew ?_ | refine blk_alloc ?_ _)); exact BK430.out) Try.underlying33 rfl (by kernel_rfl)) rfl ?_
               exact ⟨_, by first | rfl | (simp [errW_none, errW_some] <;> rfl) | (simp [*, errW_none, errW_some] <;> rfl), by (with_reducible repeat (first | apply Kd.R_alloc | apply Kd.R_drewN | apply Kd.R_drew)); exact Kd.R_mono (Kd.R_far (p := ⟨gb430, 3, none⟩) (Kd.R_far (p := ⟨gb430, 2, none⟩) (Kd.R_far (p := ⟨gb430, 1, none⟩) (Kd.R_far (p := ⟨gb430, 0, none⟩) (Kd.R_far (p := ⟨gb440, 3, none⟩) (Kd.R_far (p := ⟨gb440, 2, none⟩) (Kd.R_types (Kd.R_types HO_441001.out BK440.out (by decide)) BK430.out (by decide)) (fun _ hk => hk.1.2) (.bool true)) (fun _ hk => hk.1.2) (.int .i64 t442)) (fun _ hk => hk.2) (.int .i64 (wrap64 (t437)))) (fun _ hk => hk.2) (.slice Ao54 x441001_3.length co54)) (fun _ hk => hk.2) (.bool true)) (fun _ hk => hk.2) (.int .i64 t442)) (fun _ hk => trivial), by repeat (first | (with_reducible first | exact HB.out | apply below_alloc | apply pw_below_drewN | apply below_drew1 | refine below_set ?_ GE430.out | refine below_set ?_ GE440.out) | exact HB.out)⟩
              ·
               replace c50 := Bool.eq_false_iff.mpr c50
               subst c50
               have H1 : (if 0 < (t441.length : Int) then (if (rd t441 0) = 114 then (if x441001_3.length < 17592186044416 then (stookref21_Scan.l0 kj34 l0 (wrap64 (t437)) (x441001_3 ++ [x441003_3]) x441002_3 t442) else (none)) else (some ((wrap64 (t437)), x441001_3, x441002_3, x441003_3, 0))) else (none)) = some (r1, r2, r3, r4, r5) := by rw [if_neg (show ¬ (false = true) by decide)] at H; exact H
               clear H
               have H := H1
               clear H1
               by_cases c55 : 0 < (t441.length : Int)
               ·
                rw [if_pos c55] at H
                have c55b0 : decide (0 < (t441.length : Int)) = true := decide_eq_true c55
                have c55b1 : decide (0 < t441.length) = true := decide_eq_true (by omega)
                clear c55
                by_cases c56 : (rd t441 0) = 114
                ·
                 rw [if_pos c56] at H
                 have c56b0 : ((rd t441 0) == 114) = true := beq_iff_eq.mpr c56
                 have c56b1 : ((rd t441 0) != 114) = false := bne_eq_false_iff_eq.mpr c56
                 clear c56
                 by_cases c57 : x441001_3.length < 17592186044416
                 ·
                  rw [if_pos c57] at H
                  have LMc57 := Aside0.mk c57
                  clear c57
                  obtain ⟨y453, hy453⟩ : ∃ y_ : List Int, y_ = (x441001_3 ++ [x441003_3]) := ⟨_, rfl⟩
                  replace H : (stookref21_Scan.l0 kj34 l0 (wrap64 (t437)) y453 x441002_3 t442) = some (r1, r2, r3, r4, r5) := by first | (rw [hy453]; with_reducible exact H) | (have H2_ := (Option.bind_some _ _).symm.trans H; rw [hy453]; with_reducible exact H2_) | (have H2_ := (Option.bind_some _ _).symm.trans H; with_reducible exact H2_) | with_reducible exact H | (rw [hy453]; exact H) | exact H
                  have Ny453 := Aside0.mk hy453
                  clear hy453
                  have H' := Aside0.mk H
                  clear H
                  obtain ⟨Ao58, co58, eo58⟩ := Kd.R_slice HO_10.out
                  subst eo58
                  have p452 : 0 ≤ (0 : Int) := (by omega)
                  have q452 : 0 < (t441.length : Int) := of_decide_eq_true (by first | (with_reducible assumption) | assumption)
                  obtain ⟨ad452, e452, hx452_0⟩ := Kd.at_int (Kd.R_reads' HO_10.out).2.2 0 p452 q452
                  cases e452
                  have qi452 : (0 < t441.length) = True := eq_true (by omega)
                  (try rw [show ((0 : Int)).toNat = 0 from rfl] at hx452_0)
                  (try rw [Addr.add_zero'] at hx452_0)
                  replace p452 := eq_true p452
                  replace q452 := eq_true q452
                  have hnb59 := NB440_430.out
                  have hnc59 := NB430_440.out
                  have hcz60_0 : wc.cell? ⟨gb440, 0, none⟩ = some (.int .i64 (wrap64 (t437))) := (blk_cell BK440.out 0).trans rfl
                  have hcz60_1 : wc.cell? ⟨gb440, 1, none⟩ = some (u441001) := (blk_cell BK440.out 1).trans rfl
                  have hcz60_2 : wc.cell? ⟨gb440, 2, none⟩ = some (.bool x441002_3) := (blk_cell BK440.out 2).trans rfl
                  have hcz60_3 : wc.cell? ⟨gb440, 3, none⟩ = some (.int .i64 x441003_3) := (blk_cell BK440.out 3).trans rfl
                  have hfz60_0 := blk_frozen BK440.out 0
                  have hfz60_1 := blk_frozen BK440.out 1
                  have hfz60_2 := blk_frozen BK440.out 2
                  have hfz60_3 := blk_frozen BK440.out 3
                  go_wp2_with (first | ((with_reducible refine gate_builtin (b := .append) (xs := #[.tmp 98, .tmp 101]) rfl ?_); (try (refine gate_guard (by rfl) ?_; dsimp only)); at_builtin; refine Kd.R_append (Kd.int .i64) (w0 := w) w.heap.size rfl (.tmp 98) (.tmp 101) 31 3 (.int .i64 0) 8 rfl Try.underlying31 info3 rfl (by decide) (by omega) u441001 x441001_3 x441003_3 [.int .i64 x441003_3] (fun _ => True) (fun _ => False) rfl rfl ?aP (fun _ hk => hk.elim) ?aF ?aO ?aB ?aS ?aL ?_; (case aP => exact rfl); (case aB => exact (by repeat (first | (with_reducible first | exact HB.out | apply below_alloc | apply pw_below_drewN | apply below_drew1 | refine below_set ?_ GE430.out | refine below_set ?_ GE440.out) | exact HB.out))); (case aF => exact (fun _ _ => trivial)); (case aO => exact (by (with_reducible repeat (first | apply Kd.R_alloc | apply Kd.R_drewN | apply Kd.R_drew)); exact HO_441001.out)); (case aS => exact (below_size (by repeat (first | (with_reducible first | exact HB.out | apply below_alloc | apply pw_below_drewN | apply below_drew1 | refine below_set ?_ GE430.out | refine below_set ?_ GE440.out) | exact HB.out)))); (case aL => have := LMc57.out; omega); intro v454 w61 ho hb hg hat; rw [← Ny453.out] at ho; have n0_ := Aside0.mk (Kd.R_over' (by (with_reducible repeat (first | apply Kd.R_alloc | apply Kd.R_drewN | apply Kd.R_drew)); exact HO_10.out) (Kd.R_typed (by (with_reducible repeat (first | apply Kd.R_alloc | apply Kd.R_drewN | apply Kd.R_drew)); exact HO_441001.out)) (by decide) hg); have n1_ := Aside0.mk (blk_grown (g := gb430) (o := .cells #[.int .i64 x431000_3, .slice none 0 0, .bool x431002_3, .int .i64 x431003_3] 33 (0, 0)) (by (with_reducible repeat (first | refine blk_drewN ?_ _ | refine blk_drew ?_ | refine blk_alloc ?_ _)); exact BK430.out) hg (Kd.R_ne HO_441001.out BK430.out (by decide))); have n2_ := Aside0.mk (blk_grown (g := gb440) (o := .cells #[.int .i64 (wrap64 (t437)), u441001, .bool x441002_3, .int .i64 x441003_3] 33 (0, 0)) (by (with_reducible repeat (first | refine blk_drewN ?_ _ | refine blk_drew ?_ | refine blk_alloc ?_ _)); exact BK440.out) hg (Kd.R_ne HO_441001.out BK440.out (by decide))); have n3_ := Aside0.mk (hb); have n4_ := Aside0.mk (ho); clear HO_10; clear BK430; clear BK440; clear HB; clear HO_441001; have HO_10 := n0_; have BK430 := n1_; have BK440 := n2_; have HB := n3_; have HO455 := n4_; clear n0_ n1_ n2_ n3_ n4_; clear ho hb hg hat; obtain ⟨Ao62, co62, eo62⟩ := Kd.R_slice HO455.out; subst eo62; have hcz63_0 : w61.cell? ⟨gb440, 0, none⟩ = some (.int .i64 (wrap64 (t437))) := (blk_cell BK440.out 0).trans rfl; have hcz63_1 : w61.cell? ⟨gb440, 1, none⟩ = some (u441001) := (blk_cell BK440.out 1).trans rfl; have hcz63_2 : w61.cell? ⟨gb440, 2, none⟩ = some (.bool x441002_3) := (blk_cell BK440.out 2).trans rfl; have hcz63_3 : w61.cell? ⟨gb440, 3, none⟩ = some (.int .i64 x441003_3) := (blk_cell BK440.out 3).trans rfl; have hfz63_0 := blk_frozen BK440.out 0; have hfz63_1 := blk_frozen BK440.out 1; have hfz63_2 := blk_frozen BK440.out 2; have hfz63_3 := blk_frozen BK440.out 3))
                  go_roundg kj34
                  case measure => have := HJ2.out; have := HJ13.out; have := HK3.out; have := HJ23.out; have := HJ34.out; omega
                  case rel => exact ⟨(x431000_3), (x431002_3), (x431003_3), (y453), (x441002_3), (t442), (.slice Ao62 y453.length co62), H', ⟨by have := HJ2.out; have := HJ13.out; have := HK3.out; have := HJ23.out; have := HJ34.out; omega⟩, ⟨by (with_reducible repeat (first | apply Kd.R_alloc | apply Kd.R_drewN | apply Kd.R_drew)); exact Kd.R_mono (Kd.R_far (p := ⟨gb440, 3, none⟩) (Kd.R_far (p := ⟨gb440, 1, none⟩) (Kd.R_types HO455.out BK440.out (by decide)) (fun _ hk => hk.2) (.slice Ao62 y453.length co62)) (fun _ hk => hk.2) (.int .i64 t442)) (fun _ hk => trivial)⟩, ⟨by (with_reducible repeat (first | refine blk_drewN ?_ _ | refine blk_drew ?_ | refine blk_alloc ?_ _)); refine blk_far ?_ NB430_440.out _; (with_reducible repeat (first | refine blk_drewN ?_ _ | refine blk_drew ?_ | refine blk_alloc ?_ _)); refine blk_far ?_ NB430_440.out _; (with_reducible repeat (first | refine blk_drewN ?_ _ | refine blk_drew ?_ | refine blk_alloc ?_ _)); exact BK430.out⟩, ⟨by (with_reducible repeat (first | refine blk_drewN ?_ _ | refine blk_drew ?_ | refine blk_alloc ?_ _)); refine blk_put (cs := #[.int .i64 (wrap64 (t437)), .slice Ao62 y453.length co62, .bool x441002_3, .int .i64 x441003_3]) ?_ 3 _ rfl; (with_reducible repeat (first | refine blk_drewN ?_ _ | refine blk_drew ?_ | refine blk_alloc ?_ _)); refine blk_put (cs := #[.int .i64 (wrap64 (t437)), u441001, .bool x441002_3, .int .i64 x441003_3]) ?_ 1 _ rfl; (with_reducible repeat (first | refine blk_drewN ?_ _ | refine blk_drew ?_ | refine blk_alloc ?_ _)); exact BK440.out⟩, ⟨by repeat (first | (with_reducible first | exact HB.out | apply below_alloc | apply pw_below_drewN | apply below_drew1 | refine below_set ?_ GE430.out | refine below_set ?_ GE440.out) | exact HB.out)⟩⟩
                 ·
                  rw [if_neg c57] at H
                  exact absurd H (by simp)
                ·
                 rw [if_neg c56] at H
                 have c56b0 : ((rd t441 0) == 114) = false := beq_eq_false_iff_ne.mpr c56
                 have c56b1 : ((rd t441 0) != 114) = true := bne_iff_ne.mpr c56
                 simp only [Option.some.injEq, Prod.mk.injEq] at H
                 obtain ⟨rfl, rfl, rfl, rfl, rfl⟩ := H
                 obtain ⟨Ao64, co64, eo64⟩ := Kd.R_slice HO_10.out
                 subst eo64
                 have p452 : 0 ≤ (0 : Int) := (by omega)
                 have q452 : 0 < (t441.length : Int) := of_decide_eq_true (by first | (with_reducible assumption) | assumption)
                 obtain ⟨ad452, e452, hx452_0⟩ := Kd.at_int (Kd.R_reads' HO_10.out).2.2 0 p452 q452
                 cases e452
                 have qi452 : (0 < t441.length) = True := eq_true (by omega)
                 (try rw [show ((0 : Int)).toNat = 0 from rfl] at hx452_0)
                 (try rw [Addr.add_zero'] at hx452_0)
                 replace p452 := eq_true p452
                 replace q452 := eq_true q452
                 have hnb65 := NB440_430.out
                 have hnc65 := NB430_440.out
                 have hcz66_0 : wc.cell? ⟨gb440, 0, none⟩ = some (.int .i64 (wrap64 (t437))) := (blk_cell BK440.out 0).trans rfl
                 have hcz66_1 : wc.cell? ⟨gb440, 1, none⟩ = some (u441001) := (blk_cell BK440.out 1).trans rfl
                 have hcz66_2 : wc.cell? ⟨gb440, 2, none⟩ = some (.bool x441002_3) := (blk_cell BK440.out 2).trans rfl
                 have hcz66_3 : wc.cell? ⟨gb440, 3, none⟩ = some (.int .i64 x441003_3) := (blk_cell BK440.out 3).trans rfl
                 have hfz66_0 := blk_frozen BK440.out 0
                 have hfz66_1 := blk_frozen BK440.out 1
                 have hfz66_2 := blk_frozen BK440.out 2
                 have hfz66_3 := blk_frozen BK440.out 3
                 have hcz67_0 : wc.cell? ⟨gb430, 0, none⟩ = some (.int .i64 x431000_3) := (blk_cell BK430.out 0).trans rfl
                 have hcz67_1 : wc.cell? ⟨gb430, 1, none⟩ = some (.slice none 0 0) := (blk_cell BK430.out 1).trans rfl
                 have hcz67_2 : wc.cell? ⟨gb430, 2, none⟩ = some (.bool x431002_3) := (blk_cell BK430.out 2).trans rfl
                 have hcz67_3 : wc.cell? ⟨gb430, 3, none⟩ = some (.int .i64 x431003_3) := (blk_cell BK430.out 3).trans rfl
                 have hfz67_0 := blk_frozen BK430.out 0
                 have hfz67_1 := blk_frozen BK430.out 1
                 have hfz67_2 := blk_frozen BK430.out 2
                 have hfz67_3 := blk_frozen BK430.out 3
                 obtain ⟨Ao68, co68, eo68⟩ := Kd.R_slice HO_441001.out
                 subst eo68
                 go_wp2
                 refine bodyPost_ret (results_ct rfl _ _ gb430 33 #[.int .i64 (wrap64 (t437)), .slice Ao68 x441001_3.length co68, .bool x441002_3, .int .i64 x441003_3] (0, 0) _ rfl (by (with_reducible repeat (first | refine blk_drewN ?_ _ | refine blk_drew ?_ | refine blk_alloc ?_ _)); refine blk_put (cs := #[.int .i64 (wrap64 (t437)), .slice Ao68 x441001_3.length co68, .bool x441002_3, .int .i64 x431003_3]) ?_ 3 _ rfl; (with_reducible repeat (first | refine blk_drewN ?_ _ | refine blk_drew ?_ | refine blk_alloc ?_ _)); refine blk_put (cs := #[.int .i64 (wrap64 (t437)), .slice Ao68 x441001_3.length co68, .bool x431002_3, .int .i64 x431003_3]) ?_ 2 _ rfl; (with_reducible repeat (first | refine blk_drewN ?_ _ | refine blk_drew ?_ | refine blk_alloc ?_ _)); refine blk_put (cs := #[.int .i64 (wrap64 (t437)), .slice none 0 0, .bool x431002_3, .int .i64 x431003_3]) ?_ 1 _ rfl; (with_reducible repeat (first | refine blk_drewN ?_ _ | refine blk_drew ?_ | refine blk_alloc ?_ _)); refine blk_put (cs := #[.int .i64 x431000_3, .slice none 0 0, .bool x431002_3, .int .i64 x431003_3]) ?_ 0 _ rfl; (with_reducible repeat (first | refine blk_drewN ?_ _ | refine blk_drew ?_ | refine blk_alloc ?_ _)); exact BK430.out) Try.underlying33 rfl (by kernel_rfl)) rfl ?_
                 exact ⟨_, by first | rfl | (simp [errW_none, errW_some] <;> rfl) | (simp [*, errW_none, errW_some] <;> rfl), by (with_reducible repeat (first | apply Kd.R_alloc | apply Kd.R_drewN | apply Kd.R_drew)); exact Kd.R_mono (Kd.R_far (p := ⟨gb430, 3, none⟩) (Kd.R_far (p := ⟨gb430, 2, none⟩) (Kd.R_far (p := ⟨gb430, 1, none⟩) (Kd.R_far (p := ⟨gb430, 0, none⟩) (Kd.R_types HO_441001.out BK430.out (by decide)) (fun _ hk => hk.2) (.int .i64 (wrap64 (t437)))) (fun _ hk => hk.2) (.slice Ao68 x441001_3.length co68)) (fun _ hk => hk.2) (.bool x441002_3)) (fun _ hk => hk.2) (.int .i64 x441003_3)) (fun _ hk => trivial), by repeat (first | (with_reducible first | exact HB.out | apply below_alloc | apply pw_below_drewN | apply below_drew1 | refine below_set ?_ GE430.out | refine below_set ?_ GE440.out) | exact HB.out)⟩
               ·
                rw [if_neg c55] at H
                exact absurd H (by simp)

end Go.Proofs.Ytjefgdggjchhbaa.PAll
