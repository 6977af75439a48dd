/- The walks of PagePuts and PageGets, by hand. -/
import Derived.Test.YtibkaeaddpbnbaaLives
import Derived.Test.YtibkaeaddpbnbaaWideK
import Derived.Test.YtibkaeaddpbnbaaSpoilP
import Derived.Test.YtibkaeaddpbnbaaPAllx2
import Derived.Test.YtibkaeaddpbnbaaPAllx3
set_option linter.unusedVariables false
set_option linter.unusedSimpArgs false
namespace Go.Proofs.Ytibkaeaddpbnbaa.PAll
open Go.RowKit Go.Proofs.YtibkaeaddpbnbaaVW.PrintWords Go.Proofs.YtibkaeaddpbnbaaVW.PrintLast Go.Proofs.YtibkaeaddpbnbaaVW.PrintMore
attribute [local go_sem] max2_int min2_int max_two min_two max_three min_three max_four min_four   -- for this text's walks alone
/-- What lives asks. -/
def Living (k : Nat) : Prop := ∃ pb : List Int, page_Put.f k 5 7 [97, 98] = some (pb, 0) ∧ page_Get.f k 5 pb = some (7, [97, 98], 0) ∧ pb.length = 512 ∧ rd pb 4 = 5 ∧ rd pb 8 = 7 ∧ rd pb 10 = 2 ∧ stookref00_Same.f k [97, 98] [97, 98] = some true
theorem Living.calls {k : Nat} (h : Living k) (w : World) : Calls Try.prog 11 #[] w fun e w' => e = .returned (.bool true) ∧ Below w.heap.size w w' := by
  obtain ⟨pb, h1, h2, h3, h4, h5, h6, h7⟩ := h
  exact lives_calls k pb w h1 h2 h3 h4 h5 h6 h7
set_option maxHeartbeats 8000000 in
set_option maxRecDepth 100000 in
theorem puts_walk (k : Nat) (n kind : Int) (A2 : Option Addr) (c2 : Nat) (l2 : List Int) (pb : List Int) (pe : Int) (w : World) (hr2 : Kd.C (Kd.int .u8) w A2 l2.length l2) (hc2 : l2.length ≤ c2) (hl2 : l2.length ≤ 140737488351232)
    (hPP : page_Put.f k n kind l2 = some (pb, pe)) (hRP : stookref15_Put.f k n kind l2 = some (pb, pe)) (hS : stookref00_Same.f k pb pb = some true) (hSl : stookref00_Same.f k l2 l2 = some true) (hLv : Living k) :
    Calls Try.prog 3 #[.int .i64 n, .int .u8 kind, .slice A2 l2.length c2] w fun e w' => e = .returned (.bool true) ∧ Below w.heap.size w w' := by
  have HR := Aside0.mk hr2
  have HC := Aside0.mk hc2
  have HL := Aside0.mk hl2
  have HPP := Aside0.mk hPP
  have HRP := Aside0.mk hRP
  have HS := Aside0.mk hS
  have HSL := Aside0.mk hSl
  have HLV := Aside0.mk hLv
  clear hr2 hc2 hl2 hPP hRP hS hSl hLv
  go_enter Try.func3, Try.ntmps3
  go_wp2_with (first
    | (go_at_call 6; (with_reducible refine (wide_calls A2 c2 l2 w HR.out HC.out HL.out).mono ?_); rintro e w1 ⟨g1, rfl, hW1, hb1⟩; have HW1 := Aside0.mk hW1; have H01 := Aside0.mk hb1; clear hW1 hb1)
    | (go_at_call 7; (with_reducible refine (page_Put.calls k n kind (some ⟨g1, 0, none⟩) (l2.length + 3) l2 pb pe w1 HW1.out.reads (Nat.le_add_right _ _) HPP.out).mono ?_); rintro e w2 ⟨vb, rfl, hob, hb2⟩; obtain ⟨Ab, cb, eb⟩ := Kd.R_slice hob; subst eb; have HOB := Aside0.mk hob; have H12 := Aside0.mk hb2; have H02 := Aside0.mk (below_step H01.out hb2); clear hob hb2)
    | (go_at_call 8; (with_reducible refine (stookref15_Put.calls k n kind A2 c2 l2 pb pe w2 (Kd.C_below HR.out H02.out) HC.out HRP.out).mono ?_); rintro e w3 ⟨vc, rfl, hoc, hb3⟩; obtain ⟨Ac, cc, ec⟩ := Kd.R_slice hoc; subst ec; have HOC := Aside0.mk hoc; have H23 := Aside0.mk hb3; have H13 := Aside0.mk (below_step H12.out hb3); have H03 := Aside0.mk (below_step H02.out hb3); clear hoc hb3)
    | ((try (refine gate_guard (by rfl) ?_; dsimp only)); go_at_call 9; (with_reducible refine (stookref00_Same.calls k Ab cb pb Ac cc pb true w3 (Kd.R_reads' (Kd.R_below HOB.out H23.out)).2.2 (Kd.R_reads' HOB.out).2.1 (Kd.R_reads' HOC.out).2.2 (Kd.R_reads' HOC.out).2.1 HS.out).mono ?_); rintro e w4 ⟨rfl, ⟨n1, rfl⟩⟩)
    | ((try (refine gate_guard (by rfl) ?_; dsimp only)); go_at_call 10; (with_reducible refine (left_calls k g1 A2 c2 l2 (w3.drewN n1) w.heap.size ((HW1.out.below H13.out).below (pw_below_drewN (Below.refl _ _) n1)) (Kd.C_drewN (Kd.C_below HR.out H03.out) n1) HC.out HL.out HSL.out).mono ?_); rintro e w5 ⟨rfl, ⟨n2, rfl⟩⟩)
    | ((try (refine gate_guard (by rfl) ?_; dsimp only)); go_at_call 11; refine (HLV.out.calls _).mono ?_; rintro e w6 ⟨rfl, hb6⟩))
  go_ret
  exact ⟨rfl, below_step (below_step H03.out (by repeat (first | exact Below.refl _ _ | apply pw_below_drewN))) hb6⟩
set_option maxHeartbeats 8000000 in
set_option maxRecDepth 100000 in
theorem gets_walk (k : Nat) (n : Int) (A1 : Option Addr) (c1 : Nat) (l1 : List Int) (x1 : Int) (x2 : List Int) (x3 : Int) (w : World) (hr1 : Kd.C (Kd.int .u8) w A1 l1.length l1) (hc1 : l1.length ≤ c1) (hl1 : l1.length ≤ 140737488351232)
    (hPG : page_Get.f k n l1 = some (x1, x2, x3)) (hRG : stookref15_Get.f k n l1 = some (x1, x2, x3)) (hS : stookref00_Same.f k x2 x2 = some true) (hSl : stookref00_Same.f k l1 l1 = some true) (hLv : Living k) :
    Calls Try.prog 4 #[.int .i64 n, .slice A1 l1.length c1] w fun e w' => e = .returned (.bool true) ∧ Below w.heap.size w w' := by
  have HR := Aside0.mk hr1
  have HC := Aside0.mk hc1
  have HL := Aside0.mk hl1
  have HPG := Aside0.mk hPG
  have HRG := Aside0.mk hRG
  have HS := Aside0.mk hS
  have HSL := Aside0.mk hSl
  have HLV := Aside0.mk hLv
  clear hr1 hc1 hl1 hPG hRG hS hSl hLv
  go_enter Try.func4, Try.ntmps4
  go_wp2_with (first
    | (go_at_call 6; (with_reducible refine (wide_calls A1 c1 l1 w HR.out HC.out HL.out).mono ?_); rintro e w1 ⟨g1, rfl, hW1, hb1⟩; have HW1 := Aside0.mk hW1; have H01 := Aside0.mk hb1; clear hW1 hb1)
    | (go_at_call 12; (with_reducible refine (page_Get.calls k n (some ⟨g1, 0, none⟩) (l1.length + 3) l1 x1 x2 x3 w1 HW1.out.reads (Nat.le_add_right _ _) HPG.out).mono ?_); rintro e w2 ⟨vb, rfl, hob, hfb, hb2⟩; obtain ⟨Ab, cb, eb⟩ := Kd.R_slice hob; subst eb; have HOB := Aside0.mk hob; have HFB := Aside0.mk hfb; have H12 := Aside0.mk hb2; have H02 := Aside0.mk (below_step H01.out hb2); clear hob hfb hb2)
    | (go_at_call 13; (with_reducible refine (stookref15_Get.calls k n A1 c1 l1 x1 x2 x3 w2 (Kd.C_below HR.out H02.out) HC.out HRG.out).mono ?_); rintro e w3 ⟨vc, rfl, hoc, hb3⟩; obtain ⟨Ac, cc, ec⟩ := Kd.R_slice hoc; subst ec; have HOC := Aside0.mk hoc; have H23 := Aside0.mk hb3; clear hoc hb3)
    | ((try (refine gate_guard (by rfl) ?_; dsimp only)); go_at_call 9; (with_reducible refine (stookref00_Same.calls k Ab cb x2 Ac cc x2 true w3 (Kd.R_reads' (Kd.R_below HOB.out H23.out)).2.2 (Kd.R_reads' HOB.out).2.1 (Kd.R_reads' HOC.out).2.2 (Kd.R_reads' HOC.out).2.1 HS.out).mono ?_); rintro e w4 ⟨rfl, ⟨n1, rfl⟩⟩)
    | (go_at_call 14; (with_reducible refine (bspoil_full w1.heap.size (.slice Ab x2.length cb) (w3.drewN n1) ((HFB.out.below H23.out).below (pw_below_drewN (Below.refl _ _) n1))).mono ?_); rintro e w5 ⟨rfl, hb5⟩; have H15 := Aside0.mk ((H12.out.trans ((H23.out.mono H12.out.size).trans (pw_below_drewN (Below.refl _ _) n1))).trans hb5); have H05 := Aside0.mk (below_step H01.out H15.out); clear hb5)
    | ((try (refine gate_guard (by rfl) ?_; dsimp only)); go_at_call 10; (with_reducible refine (left_calls k g1 A1 c1 l1 w5 w.heap.size (HW1.out.below H15.out) (Kd.C_below HR.out H05.out) HC.out HL.out HSL.out).mono ?_); rintro e w6 ⟨rfl, ⟨n2, rfl⟩⟩)
    | ((try (refine gate_guard (by rfl) ?_; dsimp only)); go_at_call 11; refine (HLV.out.calls _).mono ?_; rintro e w7 ⟨rfl, hb7⟩))
  go_ret
  exact ⟨rfl, below_step (below_step H05.out (by repeat (first | exact Below.refl _ _ | apply pw_below_drewN))) hb7⟩
end Go.Proofs.Ytibkaeaddpbnbaa.PAll
