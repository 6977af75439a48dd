/- The walk of LebFresh, by hand: what is handed in stays; what is answered is new memory. -/
import Derived.Test.YtldokdcmmjnmfaaPAllx1
import Derived.Test.YtldokdcmmjnmfaaPAllx3
import Derived.Test.YtldokdcmmjnmfaaPAllx4
import Derived.Test.YtldokdcmmjnmfaaPAllx6
import Derived.Test.YtldokdcmmjnmfaaLGive
import Derived.Test.YtldokdcmmjnmfaaLWide
set_option linter.unusedVariables false
set_option linter.unusedSimpArgs false
namespace Go.Proofs.Ytldokdcmmjnmfaa.PAll
open Go.RowKit Go.Proofs.YtldokdcmmjnmfaaVW.PrintWords Go.Proofs.YtldokdcmmjnmfaaVW.PrintLast Go.Proofs.YtldokdcmmjnmfaaVW.PrintMore
attribute [local go_sem] max2_int min2_int max_two min_two max_three min_three max_four min_four   -- for this text's walks alone

/-! ### stooklaw01_LebFresh: function 3 -/
set_option maxHeartbeats 8000000 in
set_option maxRecDepth 100000 in
theorem fresh_walk (k : Nat) (A0 : Option Addr) (c0 : Nat) (l0 : List Int) (A1 : Option Addr) (c1 : Nat) (l1 : List Int) (rb rc x1 : List Int) (x2 x3 : Int) (y1 : List Int) (y2 y3 : Int) (w : World)
    (hr0 : Kd.C (Kd.int .u8) w A0 l0.length l0) (hc0 : l0.length ≤ c0) (hr1 : Kd.C (Kd.int .u64) w A1 l1.length l1) (hc1 : l1.length ≤ c1)
    (hl0 : l0.length ≤ 1099511627776) (hlb : rb.length ≤ 1099511627776) (hly : y1.length ≤ 1099511627776)
    (hPR : leb_PutRow.f k l0 = some rb) (hPP : ∀ t, leb_put.f k [IntKind.u64.wrap (l0.length : Int)] = some t → 0 < t.length) (hRP : stookref01_PutRow.f k l0 = some rb)
    (hGR : leb_GetRow.f k rb 0 (l0.length : Int) = some (x1, x2, x3)) (hCW : stookref00_CopyWords.f l1 = some l1) (hPL : leb_PutList.f k l1 = some rc) (hRL : stookref01_PutList.f k l1 = some rc)
    (hGL : leb_GetList.f k rc 0 (l1.length : Int) = some (y1, y2, y3)) (hS1 : stookref00_Same.f k l0 l0 = some true) (hS2 : stookref00_Same.f k rb rb = some true) (hS3 : stookref00_Same.f k rc rc = some true)
    (hWW : stookref00_Words.f k l1 l1 = some true) (hWK : stooklaw01_works.f k = some true) :
    Calls Try.prog 3 #[.slice A0 l0.length c0, .slice A1 l1.length c1] w fun e w' => e = .returned (.bool true) ∧ Below w.heap.size w w' := by
  have HR0 := Aside0.mk hr0
  have HC0 := Aside0.mk hc0
  have HR1 := Aside0.mk hr1
  have HC1 := Aside0.mk hc1
  have HPR := Aside0.mk hPR
  have HPP := Aside0.mk hPP
  have HRP := Aside0.mk hRP
  have HGR := Aside0.mk hGR
  have HCW := Aside0.mk hCW
  have HPL := Aside0.mk hPL
  have HRL := Aside0.mk hRL
  have HGL := Aside0.mk hGL
  have HS1 := Aside0.mk hS1
  have HS2 := Aside0.mk hS2
  have HS3 := Aside0.mk hS3
  have HWW := Aside0.mk hWW
  have HWK := Aside0.mk hWK
  have HL0 := Aside0.mk hl0
  have HLB := Aside0.mk hlb
  have HLY := Aside0.mk hly
  clear hr0 hc0 hr1 hc1 hPR hPP hRP hGR hCW hPL hRL hGL hS1 hS2 hS3 hWW hWK hl0 hlb hly
  go_enter Try.func3, Try.ntmps3
  go_wp2_with (first
    | (go_at_call 4; (with_reducible refine (wide_calls A0 c0 l0 w HR0.out HC0.out HL0.out).mono ?_); rintro e w1 ⟨g1, rfl, hW1, hb1⟩; have HW1 := Aside0.mk hW1; have H01 := Aside0.mk hb1; clear hW1 hb1)
    | (go_at_call 5; (with_reducible refine (putrow_full k (some ⟨g1, 0, none⟩) (l0.length + 3) l0 rb w1 HW1.out.reads (Nat.le_add_right _ _) HPR.out HPP.out).mono ?_); rintro e w2 ⟨va, rfl, hFa, hb2⟩; have HFA := Aside0.mk hFa; have H12 := Aside0.mk hb2; clear hFa hb2)
    | (go_at_call 6; (with_reducible refine (spoil_full w1.heap.size va w2 HFA.out).mono ?_); rintro e w3 ⟨rfl, hb3⟩; have H13 := Aside0.mk (H12.out.trans hb3); have H03 := Aside0.mk (below_step H01.out H13.out); clear hb3 HFA)
    | (go_at_call 7; (with_reducible refine (stookref01_PutRow.calls k A0 c0 l0 rb w3 (Kd.C_below HR0.out H03.out) HC0.out HRP.out).mono ?_); rintro e w4 ⟨vb, rfl, hob, hb4⟩; obtain ⟨Ab, cb, eb_⟩ := Kd.R_slice hob; subst eb_; have HOB := Aside0.mk hob; have H34 := Aside0.mk hb4; clear hob hb4)
    | (go_at_call 4; (with_reducible refine (wide_calls Ab cb rb w4 (Kd.R_reads' HOB.out).2.2 (Kd.R_reads' HOB.out).2.1 HLB.out).mono ?_); rintro e w5 ⟨g2, rfl, hW2, hb5⟩; have HW2 := Aside0.mk hW2; have H45 := Aside0.mk hb5; clear hW2 hb5)
    | (go_at_call 8; (with_reducible refine (getrow_full k (some ⟨g2, 0, none⟩) (rb.length + 3) rb 0 (l0.length : Int) x1 x2 x3 w5 HW2.out.reads (Nat.le_add_right _ _) HGR.out).mono ?_); rintro e w6 ⟨vx, rfl, hFx, hb6⟩; have HFX := Aside0.mk hFx; have H56 := Aside0.mk hb6; clear hFx hb6)
    | (go_at_call 6; (with_reducible refine (spoil_full w5.heap.size vx w6 HFX.out).mono ?_); rintro e w7 ⟨rfl, hb7⟩; have H57 := Aside0.mk (H56.out.trans hb7); have H07 := Aside0.mk (below_step H03.out (below_step H34.out (below_step H45.out H57.out))); clear hb7 HFX)
    | (go_at_call 9; (with_reducible refine (stookref00_CopyWords.calls A1 c1 l1 l1 w7 (Kd.C_below HR1.out H07.out) HC1.out HCW.out).mono ?_); rintro e w8 ⟨vo, rfl, hoo, hb8⟩; obtain ⟨Ao, co, eo_⟩ := Kd.R_slice hoo; subst eo_; have HOO := Aside0.mk hoo; have H78 := Aside0.mk hb8; clear hoo hb8)
    | (go_at_call 10; (with_reducible refine (leb_PutList.calls k Ao co l1 rc w8 (Kd.R_reads' HOO.out).2.2 (Kd.R_reads' HOO.out).2.1 HPL.out).mono ?_); rintro e w9 ⟨vc, rfl, hoc, hb9⟩; obtain ⟨Ac, cc, ec_⟩ := Kd.R_slice hoc; subst ec_; have HOC := Aside0.mk hoc; have H89 := Aside0.mk hb9; have H09 := Aside0.mk (below_step H07.out (below_step H78.out hb9)); clear hoc hb9)
    | (go_at_call 12; (with_reducible refine (stookref01_PutList.calls k A1 c1 l1 rc w9 (Kd.C_below HR1.out H09.out) HC1.out HRL.out).mono ?_); rintro e w10 ⟨vp, rfl, hop, hb10⟩; obtain ⟨Ap, cp, ep_⟩ := Kd.R_slice hop; subst ep_; have HOP := Aside0.mk hop; have H910 := Aside0.mk hb10; clear hop hb10)
    | (go_at_call 11; (with_reducible refine (leb_GetList.calls k Ap cp rc 0 (l1.length : Int) y1 y2 y3 w10 (Kd.R_reads' HOP.out).2.2 (Kd.R_reads' HOP.out).2.1 HGL.out).mono ?_); rintro e w11 ⟨vy, rfl, hoy, hb11⟩; obtain ⟨Ay, cy, ey_⟩ := Kd.R_slice hoy; subst ey_; have HOY := Aside0.mk hoy; have H1011 := Aside0.mk hb11; clear hoy hb11))
  go_loopw [17] (fun i wr => ∃ j : Nat, j ≤ y1.length ∧ i = .int .i64 j ∧ Aside0 (∃ xs : List Int, xs.length = y1.length ∧ Kd.R (Kd.int .u64) 33 wr w10.heap.size (fun _ => True) (.slice Ay y1.length cy) xs) ∧ Aside0 (Below w10.heap.size w10 wr)) (fun i _ => y1.length - (intOf i).toNat)
  case atStart => exact ⟨0, Nat.zero_le _, rfl, ⟨y1, rfl, HOY.out⟩, H1011⟩
  case round =>
    clear HOY H1011
    obtain ⟨j, hj, rfl, hX, hB⟩ := hrel
    by_cases hjl : j < y1.length
    · obtain ⟨xs, hxl, hR⟩ := hX.out
      obtain ⟨g, cap, e1, hg, _, _⟩ := Kd.R_form hR (by omega)
      injection e1 with e2 e3 e4
      subst e2
      have hly := HLY.out
      have q1 : (0 : Int) ≤ j := by omega
      have q2 : (j : Int) < y1.length := by omega
      obtain ⟨cj, fj⟩ := Kd.R_celln 0 hR (j : Int) q1 q2
      have hN := Kd.R_putn hR (j : Int) 5
      rw [Int.toNat_natCast] at cj fj hN
      have HN := Aside0.mk hN
      have HX := Aside0.mk hxl
      have HG := Aside0.mk hg
      clear hN hxl hg hR e3 e4 hX
      go_wp2
      go_roundw
      case rel => exact ⟨j + 1, by omega, by first | rfl | go_num, ⟨_, by rw [List.length_set]; exact HX.out, HN.out⟩, ⟨hB.out.setCell (p := ⟨g, j, none⟩) HG.out _⟩⟩
      case measure => simp [intOf]; omega
    · have q9 : ¬ ((j : Int) < y1.length) := by omega
      have H9r := Aside0.mk (below_step H910.out hB.out)
      have H8r := Aside0.mk (below_step H89.out H9r.out)
      have H7r := Aside0.mk (below_step H78.out H8r.out)
      have H5r := Aside0.mk (below_step H57.out H7r.out)
      have H4r := Aside0.mk (below_step H45.out H5r.out)
      have H3r := Aside0.mk (below_step H34.out H4r.out)
      have H1r := Aside0.mk (below_step H13.out H3r.out)
      have H0r := Aside0.mk (below_step H01.out H1r.out)
      go_wp2_with (first
        | ((try (refine gate_guard (by rfl) ?_; dsimp only)); go_at_call 13; (with_reducible refine (left_calls k g1 A0 c0 l0 wr w.heap.size (HW1.out.below H1r.out) (Kd.C_below HR0.out H0r.out) HC0.out HL0.out HS1.out).mono ?_); rintro e w12 ⟨rfl, ⟨n1, rfl⟩⟩)
        | ((try (refine gate_guard (by rfl) ?_; dsimp only)); go_at_call 13; (with_reducible refine (left_calls k g2 Ab cb rb (wr.drewN n1) w4.heap.size ((HW2.out.below H5r.out).below (pw_below_drewN (Below.refl _ _) n1)) (Kd.C_drewN (Kd.R_reads' (Kd.R_below HOB.out H4r.out)).2.2 n1) (Kd.R_reads' HOB.out).2.1 HLB.out HS2.out).mono ?_); rintro e w13 ⟨rfl, ⟨n2, rfl⟩⟩)
        | ((try (refine gate_guard (by rfl) ?_; dsimp only)); go_at_call 14; refine (stookref00_Words.calls k Ao co l1 A1 c1 l1 true _ ?sideC (Kd.R_reads' HOO.out).2.1 ?sideD HC1.out HWW.out).mono ?_; (case sideC => repeat (first | exact (Kd.R_reads' (Kd.R_below HOO.out H8r.out)).2.2 | (with_reducible refine Kd.C_drewN ?_ _))); (case sideD => repeat (first | exact Kd.C_below HR1.out H0r.out | (with_reducible refine Kd.C_drewN ?_ _))); rintro e w14 ⟨rfl, ⟨n3, rfl⟩⟩)
        | ((try (refine gate_guard (by rfl) ?_; dsimp only)); go_at_call 12; refine (stookref01_PutList.calls k A1 c1 l1 rc _ ?sideA HC1.out HRL.out).mono ?_; (case sideA => repeat (first | exact Kd.C_below HR1.out H0r.out | (with_reducible refine Kd.C_drewN ?_ _))); rintro e w15 ⟨vq, rfl, hoq, hb15⟩; obtain ⟨Aq, cq, eq_⟩ := Kd.R_slice hoq; subst eq_; have HOQ := Aside0.mk hoq; have H15 := Aside0.mk hb15; clear hoq hb15)
        | ((try (refine gate_guard (by rfl) ?_; dsimp only)); go_at_call 15; refine (stookref00_Same.calls k Ac cc rc Aq cq rc true w15 (Kd.C_below ?sideB H15.out) (Kd.R_reads' HOC.out).2.1 (Kd.R_reads' HOQ.out).2.2 (Kd.R_reads' HOQ.out).2.1 HS3.out).mono ?_; (case sideB => repeat (first | exact (Kd.R_reads' (Kd.R_below HOC.out H9r.out)).2.2 | (with_reducible refine Kd.C_drewN ?_ _))); rintro e w16 ⟨rfl, ⟨n4, rfl⟩⟩)
        | ((try (refine gate_guard (by rfl) ?_; dsimp only)); go_at_call 16; refine (stooklaw01_works.calls k true _ HWK.out).mono ?_; rintro e w17 ⟨rfl, hb17⟩))
      go_ret
      exact ⟨rfl, below_step (below_step (below_step H0r.out (by repeat (first | exact Below.refl _ _ | apply pw_below_drewN))) H15.out) (below_step (pw_below_drewN (Below.refl _ _) n4) hb17)⟩
end Go.Proofs.Ytldokdcmmjnmfaa.PAll
