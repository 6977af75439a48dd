/- The walk of PackFresh, by hand: what is handed in stays; what is answered is new memory. -/
import Derived.Test.YtcbcdjpnhmjkoaaPAllx1
import Derived.Test.YtcbcdjpnhmjkoaaPAllx4
import Derived.Test.YtcbcdjpnhmjkoaaPAllx12
import Derived.Test.YtcbcdjpnhmjkoaaPackRoom
import Derived.Test.YtcbcdjpnhmjkoaaWideK
import Derived.Test.YtcbcdjpnhmjkoaaSpoilK
import Derived.Test.YtcbcdjpnhmjkoaaSpoilI
set_option linter.unusedVariables false
set_option linter.unusedSimpArgs false
namespace Go.Proofs.Ytcbcdjpnhmjkoaa.PAll
open Go.RowKit Go.Proofs.YtcbcdjpnhmjkoaaVW.PrintWords Go.Proofs.YtcbcdjpnhmjkoaaVW.PrintLast Go.Proofs.YtcbcdjpnhmjkoaaVW.PrintMore
attribute [local go_sem] max2_int min2_int max_two min_two max_three min_three max_four min_four   -- for this text's walks alone

/-! ### stooklaw12_PackFresh: function 3 -/
set_option maxHeartbeats 8000000 in
set_option maxRecDepth 100000 in
theorem pack_fresh_walk (k : Nat) (A0 : Option Addr) (c0 : Nat) (l0 : List Int) (A1 : Option Addr) (c1 : Nat) (l1 : List Int) (r1 : List Int) (r2 : Int) (x1 : List Int) (x2 x3 : Int) (w : World)
    (hr0 : Kd.C (Kd.int .i64) w A0 l0.length l0) (hc0 : l0.length ≤ c0) (hr1 : Kd.C (Kd.int .u8) w A1 l1.length l1) (hc1 : l1.length ≤ c1) (hl1 : l1.length ≤ 140737488351232)
    (hCI : stookref00_CopyInts.f l0 = some l0) (hPP : pack_Put.f k l0 = some (r1, r2)) (hPG : pack_Get.f k l1 0 = some (x1, x2, x3))
    (hII : stookref00_Ints.f k l0 l0 = some true) (hSS : stookref00_Same.f k l1 l1 = some true) (hWK : stooklaw12_works.f k = some true) :
    Calls Try.prog 3 #[.slice A0 l0.length c0, .slice A1 l1.length c1] w fun e w' => e = .returned (.bool true) ∧ Below w.heap.size w w' := by
  have HR0 := Aside0.mk hr0
  have HC0 := Aside0.mk hc0
  have HR1 := Aside0.mk hr1
  have HC1 := Aside0.mk hc1
  have HL1 := Aside0.mk hl1
  have HCI := Aside0.mk hCI
  have HPP := Aside0.mk hPP
  have HPG := Aside0.mk hPG
  have HII := Aside0.mk hII
  have HSS := Aside0.mk hSS
  have HWK := Aside0.mk hWK
  clear hr0 hc0 hr1 hc1 hl1 hCI hPP hPG hII hSS hWK
  go_enter Try.func3, Try.ntmps3
  go_wp2_with (first
    | (go_at_call 5; (with_reducible refine (stookref00_CopyInts.calls A0 c0 l0 l0 w HR0.out HC0.out HCI.out).mono ?_); rintro e w1 ⟨vo, rfl, hoo, hb1⟩; obtain ⟨Ao, co, eo_⟩ := Kd.R_slice hoo; subst eo_; have HOO := Aside0.mk hoo; have H01 := Aside0.mk hb1; clear hoo hb1)
    | (go_at_call 6; (with_reducible refine (packput_room k Ao co l0 r1 r2 w1 (Kd.R_reads' HOO.out).2.2 (Kd.R_reads' HOO.out).2.1 HPP.out).mono ?_); rintro e w2 ⟨va, rfl, hFa, hb2⟩; have HFA := Aside0.mk hFa; have H12 := Aside0.mk hb2; clear hFa hb2)
    | (go_at_call 7; (with_reducible refine (bspoil_full w1.heap.size va w2 HFA.out).mono ?_); rintro e w3 ⟨rfl, hb3⟩; have H13 := Aside0.mk (H12.out.trans hb3); have H03 := Aside0.mk (below_step H01.out H13.out); clear hb3 HFA)
    | (go_at_call 8; (with_reducible refine (wide_calls A1 c1 l1 w3 (Kd.C_below HR1.out H03.out) HC1.out HL1.out).mono ?_); rintro e w4 ⟨g1, rfl, hW1, hb4⟩; have HW1 := Aside0.mk hW1; have H34 := Aside0.mk hb4; clear hW1 hb4)
    | (go_at_call 9; (with_reducible refine (packget_room k (some ⟨g1, 0, none⟩) (l1.length + 3) l1 0 x1 x2 x3 w4 HW1.out.reads (Nat.le_add_right _ _) HPG.out).mono ?_); rintro e w5 ⟨vx, rfl, hFx, hb5⟩; have HFX := Aside0.mk hFx; have H45 := Aside0.mk hb5; clear hFx hb5)
    | (go_at_call 10; (with_reducible refine (ispoil_full w4.heap.size vx w5 HFX.out).mono ?_); rintro e w6 ⟨rfl, hb6⟩; have H46 := Aside0.mk (H45.out.trans hb6); have H36 := Aside0.mk (below_step H34.out H46.out); have H16 := Aside0.mk (below_step H13.out H36.out); have H06 := Aside0.mk (below_step H01.out H16.out); clear hb6 HFX)
    | ((try (refine gate_guard (by rfl) ?_; dsimp only)); go_at_call 11; refine (stookref00_Ints.calls k Ao co l0 A0 c0 l0 true w6 (Kd.R_reads' (Kd.R_below HOO.out H16.out)).2.2 (Kd.R_reads' HOO.out).2.1 (Kd.C_below HR0.out H06.out) HC0.out HII.out).mono ?_; rintro e w7 ⟨rfl, ⟨n1, rfl⟩⟩)
    | ((try (refine gate_guard (by rfl) ?_; dsimp only)); go_at_call 12; (with_reducible refine (left_calls k g1 A1 c1 l1 (w6.drewN n1) w3.heap.size ((HW1.out.below H46.out).below (pw_below_drewN (Below.refl _ _) n1)) (Kd.C_drewN (Kd.C_below HR1.out H06.out) n1) HC1.out HL1.out HSS.out).mono ?_); rintro e w8 ⟨rfl, ⟨n2, rfl⟩⟩)
    | ((try (refine gate_guard (by rfl) ?_; dsimp only)); go_at_call 13; refine (stooklaw12_works.calls k true _ HWK.out).mono ?_; rintro e w9 ⟨rfl, hb9⟩))
  go_ret
  exact ⟨rfl, below_step (below_step H06.out (by repeat (first | exact Below.refl _ _ | apply pw_below_drewN))) hb9⟩
end Go.Proofs.Ytcbcdjpnhmjkoaa.PAll
