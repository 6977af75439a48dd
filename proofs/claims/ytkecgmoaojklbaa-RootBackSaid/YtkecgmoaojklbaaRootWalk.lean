/- The walk of RootPuts, by hand. -/
import Derived.Test.YtkecgmoaojklbaaRootKit
import Derived.Test.YtkecgmoaojklbaaWideK
import Derived.Deep.RegionHeld3
import Derived.Test.YtkecgmoaojklbaaPAllx5
import Derived.Test.YtkecgmoaojklbaaPAllx7
import Derived.Test.YtkecgmoaojklbaaPAllx16
import Derived.Test.YtkecgmoaojklbaaPAllx17
import Derived.Test.YtkecgmoaojklbaaPAllx3
import Derived.Test.YtkecgmoaojklbaaPAllx18
set_option linter.unusedVariables false
set_option linter.unusedSimpArgs false
namespace Go.Proofs.Ytkecgmoaojklbaa.PAll
open Go.RowKit Go.Proofs.YtkecgmoaojklbaaVW.PrintWords Go.Proofs.YtkecgmoaojklbaaVW.PrintLast Go.Proofs.YtkecgmoaojklbaaVW.PrintMore
attribute [local go_sem] max2_int min2_int max_two min_two max_three min_three max_four min_four   -- for this text's walks alone
theorem eqr_true (W : World) (x0 x1 x2 x3 x4 x5 x6 : Int) : (binOp .eql 34 (.agg #[.int .u64 x0, .int .i64 x1, .int .i64 x2, .int .u64 x3, .int .u64 x4, .int .i64 x5, .int .i64 x6]) (.agg #[.int .u64 x0, .int .i64 x1, .int .i64 x2, .int .u64 x3, .int .u64 x4, .int .i64 x5, .int .i64 x6])).run Try.prog W = .ok (.bool true) W := by
  rw [run_eql_struct, eqA34 9998]
  simp
set_option maxHeartbeats 8000000 in
set_option maxRecDepth 100000 in
theorem rootputs_walk (k : Nat) (q0 q1 q2 q3 q4 q5 q6 place : Int) (A2 : Option Addr) (c2 : Nat) (l2 : List Int) (pb : List Int) (pe x0 x1 x2 x3 x4 x5 x6 xe : Int) (w : World) (hr2 : Kd.C (Kd.int .u8) w A2 l2.length l2) (hc2 : l2.length ≤ c2) (hl2 : l2.length ≤ 140737488351232)
    (hP : root_Put.f k q0 q1 q2 q3 q4 q5 q6 = some (pb, pe)) (hRP : stookref16_Put.f k q0 q1 q2 q3 q4 q5 q6 = some (pb, pe)) (hS : stookref00_Same.f k pb pb = some true) (hSl : stookref00_Same.f k l2 l2 = some true)
    (hG : root_Get.f k place l2 = some (x0, x1, x2, x3, x4, x5, x6, xe)) (hRG : stookref16_Get.f k place l2 = some (x0, x1, x2, x3, x4, x5, x6, xe)) (hLv : stooklaw16_lives.f k = some true) (hq0 : 0 ≤ q0) :
    Calls Try.prog 4 #[.agg #[.int .u64 q0, .int .i64 q1, .int .i64 q2, .int .u64 q3, .int .u64 q4, .int .i64 q5, .int .i64 q6], .int .i64 place, .slice A2 l2.length c2] w fun e w' => e = .returned (.bool true) ∧ Below w.heap.size w w' := by
  have HR := Aside0.mk hr2
  have HC := Aside0.mk hc2
  have HL := Aside0.mk hl2
  have HP := Aside0.mk hP
  have HRP := Aside0.mk hRP
  have HS := Aside0.mk hS
  have HSL := Aside0.mk hSl
  have HG := Aside0.mk hG
  have HRG := Aside0.mk hRG
  have HLV := Aside0.mk hLv
  have HQ := Aside0.mk hq0
  clear hr2 hc2 hl2 hP hRP hS hSl hG hRG hLv hq0
  have B0 := Aside0.mk (rootb_new w (.int .u64 q0) (.int .i64 q1) (.int .i64 q2) (.int .u64 q3) (.int .u64 q4) (.int .i64 q5) (.int .i64 q6))
  go_enter Try.func4, Try.ntmps4
  go_wp2_with (first
    | (go_at_call 11; (with_reducible refine (root_Put.calls k q0 q1 q2 q3 q4 q5 q6 pb pe _ HP.out).mono ?_); rintro e w1 ⟨va, rfl, hoa, hb⟩; obtain ⟨Aa, ca, ea⟩ := Kd.R_slice hoa; subst ea; have HA := Aside0.mk hoa; have H01 := Aside0.mk (below_step (below_alloc (Below.refl w.heap.size w) (.cells #[.int .u64 q0, .int .i64 q1, .int .i64 q2, .int .u64 q3, .int .u64 q4, .int .i64 q5, .int .i64 q6] 34)) hb); have B1 := Aside0.mk (B0.out.below hb); clear hoa hb; have d0 := B1.out.c0; have d1 := B1.out.c1; have d2 := B1.out.c2; have d3 := B1.out.c3; have d4 := B1.out.c4; have d5 := B1.out.c5; have d6 := B1.out.c6)
    | (go_at_call 12; (with_reducible refine (stookref16_Put.calls k q0 q1 q2 q3 q4 q5 q6 pb pe _ HRP.out).mono ?_); rintro e w2 ⟨vb, rfl, hob, hb⟩; obtain ⟨Ab, cb, eb⟩ := Kd.R_slice hob; subst eb; have HBb := Aside0.mk hob; have H12 := Aside0.mk hb; have H02 := Aside0.mk (below_step H01.out hb); have B2 := Aside0.mk (B1.out.below hb); clear hob hb))
  have HA2 := Aside0.mk (Kd.R_below HA.out H12.out)
  have z0 := B2.out.c0
  have z1 := B2.out.c1
  have z2 := B2.out.c2
  have z3 := B2.out.c3
  have z4 := B2.out.c4
  have z5 := B2.out.c5
  have z6 := B2.out.c6
  go_region_held3 (fun w' => w'.cell? ⟨w.heap.size, 0, none⟩ = some (.int .u64 q0) ∧ w'.cell? ⟨w.heap.size, 1, none⟩ = some (.int .i64 q1) ∧ w'.cell? ⟨w.heap.size, 2, none⟩ = some (.int .i64 q2) ∧ w'.cell? ⟨w.heap.size, 3, none⟩ = some (.int .u64 q3) ∧ w'.cell? ⟨w.heap.size, 4, none⟩ = some (.int .u64 q4) ∧ w'.cell? ⟨w.heap.size, 5, none⟩ = some (.int .i64 q5) ∧ w'.cell? ⟨w.heap.size, 6, none⟩ = some (.int .i64 q6)) (first | go_keep | exact ⟨y0, y1, y2, y3, y4, y5, y6⟩)
    (first
      | (go_at_call 10; refine (stookref00_Same.calls k Aa ca pb Ab cb pb true _ ?sa ?sb ?sc ?sd HS.out).mono ?_; (case sa => first | exact Kd.C_drew (Kd.R_reads' HA2.out).2.2 | exact Kd.C_below (Kd.C_drew (Kd.R_reads' HA2.out).2.2) (by assumption)); (case sb => exact (Kd.R_reads' HA.out).2.1); (case sc => first | exact Kd.C_drew (Kd.R_reads' HBb.out).2.2 | exact Kd.C_below (Kd.C_drew (Kd.R_reads' HBb.out).2.2) (by assumption)); (case sd => exact (Kd.R_reads' HBb.out).2.1); rintro e w' ⟨rfl, ⟨n1, rfl⟩⟩)
      | (go_at_call 13; refine (root_Place.calls q0 q1 q2 q3 q4 q5 q6 (wrap64 (Int.tmod q0 2)) _ rfl).mono ?_; rintro e w3 ⟨rfl, hb3⟩; have hx3 : Rootb w3 w.heap.size (.int .u64 q0) (.int .i64 q1) (.int .i64 q2) (.int .u64 q3) (.int .u64 q4) (.int .i64 q5) (.int .i64 q6) := Rootb.below (by first | exact B2.out.drew | exact B2.out.drew.drewN _ | exact B2.out.drewN _) hb3; have y0 := hx3.c0; have y1 := hx3.c1; have y2 := hx3.c2; have y3 := hx3.c3; have y4 := hx3.c4; have y5 := hx3.c5; have y6 := hx3.c6; have H03 := Aside0.mk (below_step (by first | exact below_drew1 H02.out | exact pw_below_drewN (below_drew1 H02.out) _ | exact pw_below_drewN H02.out _) hb3); clear hx3 hb3))
  clear z0 z1 z2 z3 z4 z5 z6 y0 y1 y2 y3 y4 y5 y6
  simp only [i64_w, bne_self_eq_false]
  have heq := fun W => eqr_true W x0 x1 x2 x3 x4 x5 x6
  go_wp2_with (first
    | (go_at_call 14; (with_reducible refine (wide_calls A2 c2 l2 w3 (Kd.C_below HR.out H03.out) HC.out HL.out).mono ?_); rintro e w4 ⟨g1, rfl, hW1, hb4⟩; have HW1 := Aside0.mk hW1; have H34 := Aside0.mk hb4; have H04 := Aside0.mk (below_step H03.out hb4); clear hW1 hb4)
    | (go_at_call 15; (with_reducible refine (root_Get.calls k place (some ⟨g1, 0, none⟩) (l2.length + 3) l2 x0 x1 x2 x3 x4 x5 x6 xe w4 HW1.out.reads (Nat.le_add_right _ _) HG.out).mono ?_); rintro e w5 ⟨rfl, hb5⟩; have H45 := Aside0.mk (below_alloc hb5 (.cells #[.int .u64 x0, .int .i64 x1, .int .i64 x2, .int .u64 x3, .int .u64 x4, .int .i64 x5, .int .i64 x6] 34)); have H05 := Aside0.mk (below_step H04.out H45.out); have X5 := Aside0.mk (rootb_new w5 (.int .u64 x0) (.int .i64 x1) (.int .i64 x2) (.int .u64 x3) (.int .u64 x4) (.int .i64 x5) (.int .i64 x6)); clear hb5)
    | (go_at_call 16; (with_reducible refine (stookref16_Get.calls k place A2 c2 l2 x0 x1 x2 x3 x4 x5 x6 xe _ (Kd.C_below HR.out H05.out) HC.out HRG.out).mono ?_); rintro e w6 ⟨rfl, hb6⟩; have H46 := Aside0.mk (below_alloc (below_step H45.out hb6) (.cells #[.int .u64 x0, .int .i64 x1, .int .i64 x2, .int .u64 x3, .int .u64 x4, .int .i64 x5, .int .i64 x6] 34)); have H06 := Aside0.mk (below_step H04.out H46.out); have X6 := Aside0.mk (show Rootb (w6.alloc (.cells #[.int .u64 x0, .int .i64 x1, .int .i64 x2, .int .u64 x3, .int .u64 x4, .int .i64 x5, .int .i64 x6] 34)) w5.heap.size (.int .u64 x0) (.int .i64 x1) (.int .i64 x2) (.int .u64 x3) (.int .u64 x4) (.int .i64 x5) (.int .i64 x6) from blk_alloc (X5.out.below hb6) _); clear hb6; have x60 := X6.out.c0; have x61 := X6.out.c1; have x62 := X6.out.c2; have x63 := X6.out.c3; have x64 := X6.out.c4; have x65 := X6.out.c5; have x66 := X6.out.c6)
    | ((try (refine gate_guard (by rfl) ?_; dsimp only)); go_at_call 17; refine (left_calls k g1 A2 c2 l2 _ w3.heap.size ((HW1.out.below H46.out).below ?sideB) ?sideC HC.out HL.out HSL.out).mono ?_; (case sideB => repeat (first | exact Below.refl _ _ | apply pw_below_drewN | apply below_drew1)); (case sideC => repeat (first | exact Kd.C_below HR.out H06.out | (with_reducible refine Kd.C_drewN ?_ _) | (with_reducible refine Kd.C_drew ?_))); rintro e w8 ⟨rfl, ⟨n3, rfl⟩⟩)
    | ((try (refine gate_guard (by rfl) ?_; dsimp only)); go_at_call 18; refine (stooklaw16_lives.calls k true _ HLV.out).mono ?_; rintro e w9 ⟨rfl, hb9⟩))
  go_ret
  exact ⟨rfl, below_step (by repeat (first | exact H06.out | apply pw_below_drewN | apply below_drew1)) hb9⟩
end Go.Proofs.Ytkecgmoaojklbaa.PAll
