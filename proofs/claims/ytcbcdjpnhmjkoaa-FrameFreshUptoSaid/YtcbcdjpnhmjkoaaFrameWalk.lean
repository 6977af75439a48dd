/- The walk of FrameFresh, by hand: what is handed in stays; what is answered is new memory. -/
import Derived.Test.YtcbcdjpnhmjkoaaPAllx10
import Derived.Test.YtcbcdjpnhmjkoaaPAllx11
import Derived.Test.YtcbcdjpnhmjkoaaPAllx13
import Derived.Test.YtcbcdjpnhmjkoaaPAllx4
import Derived.Test.YtcbcdjpnhmjkoaaPAllx7
import Derived.Test.YtcbcdjpnhmjkoaaFrameRoom
import Derived.Test.YtcbcdjpnhmjkoaaWideK
import Derived.Test.YtcbcdjpnhmjkoaaSpoilK
set_option linter.unusedVariables false
set_option linter.unusedSimpArgs false
namespace Go.Proofs.Ytcbcdjpnhmjkoaa.PAll
open Go.RowKit Go.Proofs.YtcbcdjpnhmjkoaaVW.PrintWords Go.Proofs.YtcbcdjpnhmjkoaaVW.PrintLast Go.Proofs.YtcbcdjpnhmjkoaaVW.PrintMore
attribute [local go_sem] max2_int min2_int max_two min_two max_three min_three max_four min_four   -- for this text's walks alone

/-! ### stooklaw03_FrameFresh: function 4 -/
set_option maxHeartbeats 8000000 in
set_option maxRecDepth 100000 in
theorem frame_fresh_walk (k : Nat) (A0 : Option Addr) (c0 : Nat) (l0 : List Int) (A1 : Option Addr) (c1 : Nat) (l1 : List Int) (r1 : List Int) (r2 : Int) (x1 : List Int) (x2 x3 : Int) (s1 : List (List Int)) (s2 s3 : Int) (w : World)
    (hr0 : Kd.C (Kd.int .u8) w A0 l0.length l0) (hc0 : l0.length ≤ c0) (hr1 : Kd.C (Kd.int .u8) w A1 l1.length l1) (hc1 : l1.length ≤ c1) (hl0 : l0.length ≤ 140737488351232) (hl1 : l1.length ≤ 140737488351232) (hls : s1.length ≤ 1099511627776)
    (hFP : frame_Put.f k l0 = some (r1, r2)) (hFG : frame_Get.f k l1 0 = some (x1, x2, x3)) (hFS : frame_Scan.f k l1 = some (s1, s2)) (hRS : stookref03_Scan.f k l1 = some (s1, s2, s3))
    (hS0 : stookref00_Same.f k l0 l0 = some true) (hS1 : stookref00_Same.f k l1 l1 = some true) (hRR : stookref00_Rows.f k s1 s1 = some true) (hWK : stooklaw03_works.f k = some true) :
    Calls Try.prog 4 #[.slice A0 l0.length c0, .slice A1 l1.length c1] w fun e w' => e = .returned (.bool true) ∧ Below w.heap.size w w' := by
  have HR0 := Aside0.mk hr0
  have HC0 := Aside0.mk hc0
  have HR1 := Aside0.mk hr1
  have HC1 := Aside0.mk hc1
  have HL0 := Aside0.mk hl0
  have HL1 := Aside0.mk hl1
  have HLS := Aside0.mk hls
  have HFP := Aside0.mk hFP
  have HFG := Aside0.mk hFG
  have HFS := Aside0.mk hFS
  have HRS := Aside0.mk hRS
  have HS0 := Aside0.mk hS0
  have HS1 := Aside0.mk hS1
  have HRR := Aside0.mk hRR
  have HWK := Aside0.mk hWK
  clear hr0 hc0 hr1 hc1 hl0 hl1 hls hFP hFG hFS hRS hS0 hS1 hRR hWK
  go_enter Try.func4, Try.ntmps4
  go_wp2_with (first
    | (go_at_call 8; (with_reducible refine (wide_calls A0 c0 l0 w HR0.out HC0.out HL0.out).mono ?_); rintro e w1 ⟨g1, rfl, hW1, hb1⟩; have HW1 := Aside0.mk hW1; have H01 := Aside0.mk hb1; clear hW1 hb1)
    | (go_at_call 14; (with_reducible refine (frameput_room k (some ⟨g1, 0, none⟩) (l0.length + 3) l0 r1 r2 w1 HW1.out.reads (Nat.le_add_right _ _) HFP.out).mono ?_); rintro e w2 ⟨va, rfl, hFa, hb2⟩; have HFA := Aside0.mk hFa; have H12 := Aside0.mk hb2; clear hFa hb2)
    | (go_at_call 7; (with_reducible refine (bspoil_full w1.heap.size va w2 HFA.out).mono ?_); rintro e w3 ⟨rfl, hb3⟩; have H13 := Aside0.mk (H12.out.trans hb3); have H03 := Aside0.mk (below_step H01.out H13.out); clear hb3 HFA)
    | (go_at_call 8; (with_reducible refine (wide_calls A1 c1 l1 w3 (Kd.C_below HR1.out H03.out) HC1.out HL1.out).mono ?_); rintro e w4 ⟨g2, rfl, hW2, hb4⟩; have HW2 := Aside0.mk hW2; have H34 := Aside0.mk hb4; clear hW2 hb4)
    | (go_at_call 15; (with_reducible refine (frameget_room k (some ⟨g2, 0, none⟩) (l1.length + 3) l1 0 x1 x2 x3 w4 HW2.out.reads (Nat.le_add_right _ _) HFG.out).mono ?_); rintro e w5 ⟨vx, rfl, _, hFx, hb5⟩; have HFX := Aside0.mk hFx; have H45 := Aside0.mk hb5; clear hFx hb5)
    | (go_at_call 7; (with_reducible refine (bspoil_full w4.heap.size vx w5 HFX.out).mono ?_); rintro e w6 ⟨rfl, hb6⟩; have H46 := Aside0.mk (H45.out.trans hb6); clear hb6 HFX)
    | (go_at_call 16; (with_reducible refine (frameScan_room k (some ⟨g2, 0, none⟩) (l1.length + 3) l1 s1 s2 w6 (Kd.C_below HW2.out.reads H46.out) (Nat.le_add_right _ _) HFS.out).mono ?_); rintro e w7 ⟨vl, rfl, hol, hb7⟩; have hol := Kd.S_R hol; obtain ⟨Al, cl, el_⟩ := Kd.R_slice hol; subst el_; have HOL := Aside0.mk hol; have H67 := Aside0.mk hb7; clear hol hb7))
  have HX0 : Aside0 (∀ gl, Al = some ⟨gl, 0, none⟩ → Rooms w7 w6.heap.size gl s1.length) := ⟨fun gl e => by subst e; exact rooms_of HOL.out⟩
  have HA0 : Aside0 (0 < s1.length → ∃ gl, Al = some ⟨gl, 0, none⟩) := ⟨fun h => by
    obtain ⟨gl, cap, e, _⟩ := Kd.R_form HOL.out h
    injection e with e1
    exact ⟨gl, e1⟩⟩
  clear HOL
  go_loopw [14] (fun i wr => ∃ j : Nat, j ≤ s1.length ∧ i = .int .i64 j ∧ Aside0 (∀ gl, Al = some ⟨gl, 0, none⟩ → Rooms wr w6.heap.size gl s1.length) ∧ Aside0 (Below w6.heap.size w6 wr)) (fun i _ => s1.length - (intOf i).toNat)
  case atStart => exact ⟨0, Nat.zero_le _, rfl, HX0, H67⟩
  case round =>
    clear HX0 H67
    obtain ⟨j, hj, rfl, hX, hB⟩ := hrel
    by_cases hjl : j < s1.length
    · obtain ⟨gl, eAl⟩ := HA0.out (by omega)
      subst eAl
      obtain ⟨vj, cj, hFj, hne⟩ := hX.out gl rfl j hjl
      have hls := HLS.out
      have q1 : (0 : Int) ≤ j := by omega
      have q2 : (j : Int) < s1.length := by omega
      have HFJ := Aside0.mk hFj
      have HNE := Aside0.mk hne
      clear hFj hne
      go_wp2_with (first | (go_at_call 7; (with_reducible refine (spoil_each w6.heap.size vj wr HFJ.out).mono ?_); rintro e w8 ⟨rfl, hb8, hk8, hf8⟩; have HB8 := Aside0.mk hb8; have HK8 := Aside0.mk hk8; have HF8 := Aside0.mk hf8; clear hb8 hk8 hf8))
      go_roundw
      case rel => exact ⟨j + 1, by omega, by first | rfl | go_num, ⟨fun gl' e' => by
        injection e' with e'
        injection e' with e'
        subst e'
        intro i hi
        obtain ⟨v, c, f, ne⟩ := hX.out gl rfl i hi
        exact ⟨v, (cell_same (HK8.out gl (fun q => HNE.out q.symm)) i).trans c, HF8.out v f, ne⟩⟩, ⟨hB.out.trans HB8.out⟩⟩
      case measure => simp [intOf]; omega
    · have q9 : ¬ ((j : Int) < s1.length) := by omega
      have H4r := Aside0.mk (below_step H46.out hB.out)
      have H3r := Aside0.mk (below_step H34.out H4r.out)
      have H1r := Aside0.mk (below_step H13.out H3r.out)
      have H0r := Aside0.mk (below_step H01.out H1r.out)
      clear HA0 hX
      go_wp2_with (first
        | (go_at_call 16; (with_reducible refine (frame_Scan.calls k (some ⟨g2, 0, none⟩) (l1.length + 3) l1 s1 s2 wr (Kd.C_below HW2.out.reads H4r.out) (Nat.le_add_right _ _) HFS.out).mono ?_); rintro e w8 ⟨vm, rfl, hom, hb8⟩; have hom := Kd.S_R hom; obtain ⟨Am, cm, em_⟩ := Kd.R_slice hom; subst em_; have HOM := Aside0.mk hom; have H8 := Aside0.mk hb8; have H08 := Aside0.mk (below_step H0r.out hb8); clear hom hb8)
        | (go_at_call 17; (with_reducible refine (stookref03_Scan.calls k A1 c1 l1 s1 s2 s3 w8 (Kd.C_below HR1.out H08.out) HC1.out HRS.out).mono ?_); rintro e w9 ⟨vn, rfl, hon, hb9⟩; have hon := Kd.S_R hon; obtain ⟨An, cn, en_⟩ := Kd.R_slice hon; subst en_; have HON := Aside0.mk hon; have H9 := Aside0.mk hb9; have H09 := Aside0.mk (below_step H08.out hb9); have H49 := Aside0.mk (below_step H4r.out (below_step H8.out hb9)); have H19 := Aside0.mk (below_step H1r.out (below_step H8.out hb9)); clear hon hb9)
        | ((try (refine gate_guard (by rfl) ?_; dsimp only)); go_at_call 12; (with_reducible refine (left_calls k g1 A0 c0 l0 w9 w.heap.size (HW1.out.below H19.out) (Kd.C_below HR0.out H09.out) HC0.out HL0.out HS0.out).mono ?_); rintro e w10 ⟨rfl, ⟨n1, rfl⟩⟩)
        | ((try (refine gate_guard (by rfl) ?_; dsimp only)); go_at_call 12; (with_reducible refine (left_calls k g2 A1 c1 l1 (w9.drewN n1) w3.heap.size ((HW2.out.below H49.out).below (pw_below_drewN (Below.refl _ _) n1)) (Kd.C_drewN (Kd.C_below HR1.out H09.out) n1) HC1.out HL1.out HS1.out).mono ?_); rintro e w11 ⟨rfl, ⟨n2, rfl⟩⟩)
        | ((try (refine gate_guard (by rfl) ?_; dsimp only)); go_at_call 18; refine (stookref00_Rows.calls k Am cm s1 An cn s1 true _ ?sideC (Kd.R_reads' HOM.out).2.1 ?sideD (Kd.R_reads' HON.out).2.1 HRR.out).mono ?_; (case sideC => repeat (first | exact (Kd.R_reads' (Kd.R_below HOM.out H9.out)).2.2 | (with_reducible refine Kd.C_drewN ?_ _))); (case sideD => repeat (first | exact (Kd.R_reads' HON.out).2.2 | (with_reducible refine Kd.C_drewN ?_ _))); rintro e w12 ⟨rfl, ⟨n3, rfl⟩⟩)
        | ((try (refine gate_guard (by rfl) ?_; dsimp only)); go_at_call 19; refine (stooklaw03_works.calls k true _ HWK.out).mono ?_; rintro e w13 ⟨rfl, hb13⟩))
      go_ret
      exact ⟨rfl, below_step (below_step H09.out (by repeat (first | exact Below.refl _ _ | apply pw_below_drewN))) hb13⟩
end Go.Proofs.Ytcbcdjpnhmjkoaa.PAll
