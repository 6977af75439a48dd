/- The walk of ShardFrames, by hand. -/
import Derived.Test.YtjefgdggjchhbaaShardLives
import Derived.Test.YtjefgdggjchhbaaWideK
import Derived.Test.YtjefgdggjchhbaaPAllx2
import Derived.Test.YtjefgdggjchhbaaPAllx4
set_option linter.unusedVariables false
set_option linter.unusedSimpArgs false
namespace Go.Proofs.Ytjefgdggjchhbaa.PAll
open Go.RowKit Go.Proofs.YtjefgdggjchhbaaVW.PrintWords Go.Proofs.YtjefgdggjchhbaaVW.PrintLast Go.Proofs.YtjefgdggjchhbaaVW.PrintMore
attribute [local go_sem] max2_int min2_int max_two min_two max_three min_three max_four min_four   -- for this text's walks alone
set_option maxHeartbeats 8000000 in
set_option maxRecDepth 100000 in
theorem frames_walk (k : Nat) (n : Int) (A1 : Option Addr) (c1 : Nat) (l1 : List Int) (a : List Int) (ea : Int) (b : List Int) (eb : Int) (w : World) (hr1 : Kd.C (Kd.int .u8) w A1 l1.length l1) (hc1 : l1.length ≤ c1) (hl1 : l1.length ≤ 140737488351232)
    (hH : shard_Head.f k n = some (a, ea)) (hRH : stookref21_Head.f k n = some (a, ea)) (hB : shard_Body.f k l1 = some (b, eb)) (hRB : stookref21_Body.f k l1 = some (b, eb)) (hSa : stookref00_Same.f k a a = some true) (hSb : stookref00_Same.f k b b = some true) (hSl : stookref00_Same.f k l1 l1 = some true) (hLv : Living k) :
    Calls Try.prog 3 #[.int .i64 n, .slice A1 l1.length c1] w fun e w' => e = .returned (.bool true) ∧ Below w.heap.size w w' := by
  have HR := Aside0.mk hr1
  have HC := Aside0.mk hc1
  have HL := Aside0.mk hl1
  have HH := Aside0.mk hH
  have HRH := Aside0.mk hRH
  have HBd := Aside0.mk hB
  have HRB := Aside0.mk hRB
  have HSA := Aside0.mk hSa
  have HSB := Aside0.mk hSb
  have HSL := Aside0.mk hSl
  have HLV := Aside0.mk hLv
  clear hr1 hc1 hl1 hH hRH hB hRB hSa hSb hSl hLv
  go_enter Try.func3, Try.ntmps3
  go_wp2_with (first
    | (go_at_call 8; (with_reducible refine (wide_calls A1 c1 l1 w HR.out HC.out HL.out).mono ?_); rintro e w1 ⟨g1, rfl, hW1, hb1⟩; have HW1 := Aside0.mk hW1; have H01 := Aside0.mk hb1; clear hW1 hb1)
    | (go_at_call 9; (with_reducible refine (shard_Head.calls k n a ea w1 HH.out).mono ?_); rintro e w2 ⟨va, rfl, hoa, hb2⟩; obtain ⟨Aa, ca, e2⟩ := Kd.R_slice hoa; subst e2; have HA := Aside0.mk hoa; have H12 := Aside0.mk hb2; clear hoa hb2)
    | (go_at_call 10; (with_reducible refine (stookref21_Head.calls k n a ea w2 HRH.out).mono ?_); rintro e w3 ⟨vb, rfl, hob, hb3⟩; obtain ⟨Ab, cb, e3⟩ := Kd.R_slice hob; subst e3; have HBb := Aside0.mk hob; have H23 := Aside0.mk hb3; have H13 := Aside0.mk (below_step H12.out hb3); clear hob hb3)
    | (go_at_call 11; (with_reducible refine (shard_Body.calls k (some ⟨g1, 0, none⟩) (l1.length + 3) l1 b eb w3 (Kd.C_below HW1.out.reads H13.out) (Nat.le_add_right _ _) HBd.out).mono ?_); rintro e w4 ⟨vc, rfl, hoc, hb4⟩; obtain ⟨Ac, cc, e4⟩ := Kd.R_slice hoc; subst e4; have HCc := Aside0.mk hoc; have H34 := Aside0.mk hb4; have H14 := Aside0.mk (below_step H13.out hb4); have H04 := Aside0.mk (below_step H01.out H14.out); clear hoc hb4)
    | (go_at_call 12; (with_reducible refine (stookref21_Body.calls k A1 c1 l1 b eb w4 (Kd.C_below HR.out H04.out) HC.out HRB.out).mono ?_); rintro e w5 ⟨vd, rfl, hod, hb5⟩; obtain ⟨Ad, cd, e5⟩ := Kd.R_slice hod; subst e5; have HDd := Aside0.mk hod; have H45 := Aside0.mk hb5; have H35 := Aside0.mk (below_step H34.out hb5); have H25 := Aside0.mk (below_step H23.out H35.out); have H15 := Aside0.mk (below_step H14.out hb5); have H05 := Aside0.mk (below_step H04.out hb5); clear hod hb5)
    | ((try (refine gate_guard (by rfl) ?_; dsimp only)); go_at_call 13; (with_reducible refine (stookref00_Same.calls k Aa ca a Ab cb a true w5 (Kd.R_reads' (Kd.R_below HA.out H25.out)).2.2 (Kd.R_reads' HA.out).2.1 (Kd.R_reads' (Kd.R_below HBb.out H35.out)).2.2 (Kd.R_reads' HBb.out).2.1 HSA.out).mono ?_); rintro e w6 ⟨rfl, ⟨n1, rfl⟩⟩)
    | ((try (refine gate_guard (by rfl) ?_; dsimp only)); go_at_call 13; (with_reducible refine (stookref00_Same.calls k Ac cc b Ad cd b true (w5.drewN n1) (Kd.C_drewN (Kd.R_reads' (Kd.R_below HCc.out H45.out)).2.2 n1) (Kd.R_reads' HCc.out).2.1 (Kd.C_drewN (Kd.R_reads' HDd.out).2.2 n1) (Kd.R_reads' HDd.out).2.1 HSB.out).mono ?_); rintro e w7 ⟨rfl, ⟨n2, rfl⟩⟩)
    | ((try (refine gate_guard (by rfl) ?_; dsimp only)); go_at_call 14; refine (left_calls k g1 A1 c1 l1 _ w.heap.size ((HW1.out.below H15.out).below ?sideB) ?sideC HC.out HL.out HSL.out).mono ?_; (case sideB => repeat (first | exact Below.refl _ _ | apply pw_below_drewN)); (case sideC => repeat (first | exact Kd.C_below HR.out H05.out | (with_reducible refine Kd.C_drewN ?_ _))); rintro e w8 ⟨rfl, ⟨n3, rfl⟩⟩)
    | ((try (refine gate_guard (by rfl) ?_; dsimp only)); go_at_call 15; refine (lives_calls k _ HLV.out).mono ?_; rintro e w9 ⟨rfl, hb9⟩))
  go_ret
  exact ⟨rfl, below_step (below_step H05.out (by repeat (first | exact Below.refl _ _ | apply pw_below_drewN))) hb9⟩
end Go.Proofs.Ytjefgdggjchhbaa.PAll
