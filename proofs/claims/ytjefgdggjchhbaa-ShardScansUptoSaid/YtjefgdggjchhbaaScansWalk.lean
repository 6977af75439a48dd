/- The walk of ShardScans, by hand. -/
import Derived.Test.YtjefgdggjchhbaaShardLives
import Derived.Test.YtjefgdggjchhbaaWideK
import Derived.Test.YtjefgdggjchhbaaPAllx8
import Derived.Test.YtjefgdggjchhbaaPAllx12
import Derived.Test.YtjefgdggjchhbaaPAllx9
import Derived.Test.YtjefgdggjchhbaaPAllx13
import Derived.Test.YtjefgdggjchhbaaPAllx4
set_option linter.unusedVariables false
set_option linter.unusedSimpArgs false
namespace Go.Proofs.Ytjefgdggjchhbaa.PAll
open Go.RowKit Go.Proofs.YtjefgdggjchhbaaVW.PrintWords Go.Proofs.YtjefgdggjchhbaaVW.PrintLast Go.Proofs.YtjefgdggjchhbaaVW.PrintMore
attribute [local go_sem] max2_int min2_int max_two min_two max_three min_three max_four min_four   -- for this text's walks alone
/-- A block that holds a shard. -/
def Shb (w : World) (g : Nat) (a b c d : Value) : Prop := w.heap[g]? = some (.cells #[a, b, c, d] 33 (0, 0))
section
variable {w w' : World} {g : Nat} {a b c d : Value}
theorem Shb.c0 (H : Shb w g a b c d) : w.cell? ⟨g, 0, none⟩ = some a := (blk_cell H 0).trans rfl
theorem Shb.c1 (H : Shb w g a b c d) : w.cell? ⟨g, 1, none⟩ = some b := (blk_cell H 1).trans rfl
theorem Shb.c2 (H : Shb w g a b c d) : w.cell? ⟨g, 2, none⟩ = some c := (blk_cell H 2).trans rfl
theorem Shb.c3 (H : Shb w g a b c d) : w.cell? ⟨g, 3, none⟩ = some d := (blk_cell H 3).trans rfl
theorem Shb.below (H : Shb w g a b c d) (hb : Below w.heap.size w w') : Shb w' g a b c d := blk_below H hb
end
theorem shb_new (w : World) (a b c d : Value) : Shb (w.alloc (.cells #[a, b, c, d] 33)) w.heap.size a b c d := heap_alloc_new w _
set_option maxHeartbeats 8000000 in
set_option maxRecDepth 100000 in
theorem scans_walk (k : Nat) (A1 : Option Addr) (c1 : Nat) (l1 : List Int) (n : Int) (ps : List Int) (sd : Bool) (en e1 : Int) (x : List Int) (xe : Int) (w : World) (hr1 : Kd.C (Kd.int .u8) w A1 l1.length l1) (hc1 : l1.length ≤ c1) (hl1 : l1.length ≤ 140737488351232)
    (hSc : shard_Scan.f k l1 = some (n, ps, sd, en, e1)) (hRS : stookref21_Scan.f k l1 = some (n, ps, sd, en, e1)) (hSm : stookref21_Same.f k n ps sd en n ps sd en = some true) (hF : shard_Foot.f k l1 = some (x, xe)) (hRF : stookref21_Foot.f k l1 = some (x, xe)) (hSx : stookref00_Same.f k x x = some true) (hSl : stookref00_Same.f k l1 l1 = some true) (hLv : Living k) :
    Calls Try.prog 4 #[.slice A1 l1.length c1] w fun e w' => e = .returned (.bool true) ∧ Below w.heap.size w w' := by
  have HR := Aside0.mk hr1
  have HC := Aside0.mk hc1
  have HL := Aside0.mk hl1
  have HSC := Aside0.mk hSc
  have HRS := Aside0.mk hRS
  have HSM := Aside0.mk hSm
  have HF := Aside0.mk hF
  have HRF := Aside0.mk hRF
  have HSX := Aside0.mk hSx
  have HSL := Aside0.mk hSl
  have HLV := Aside0.mk hLv
  clear hr1 hc1 hl1 hSc hRS hSm hF hRF hSx hSl hLv
  go_enter Try.func4, Try.ntmps4
  go_wp2_with (first
    | (go_at_call 8; (with_reducible refine (wide_calls A1 c1 l1 w HR.out HC.out HL.out).mono ?_); rintro e w1 ⟨g1, rfl, hW1, hb1⟩; have HW1 := Aside0.mk hW1; have H01 := Aside0.mk hb1; clear hW1 hb1)
    | (go_at_call 16; (with_reducible refine (shard_Scan.calls k (some ⟨g1, 0, none⟩) (l1.length + 3) l1 n ps sd en e1 w1 HW1.out.reads (Nat.le_add_right _ _) HSC.out).mono ?_); rintro e w2 ⟨va, rfl, hoa, hb⟩; obtain ⟨Aa, ca, ea⟩ := Kd.R_slice hoa; subst ea; have HA := Aside0.mk (Kd.R_alloc hoa (.cells #[.int .i64 n, .slice Aa ps.length ca, .bool sd, .int .i64 en] 33)); have H12 := Aside0.mk (below_alloc hb (.cells #[.int .i64 n, .slice Aa ps.length ca, .bool sd, .int .i64 en] 33)); have H02 := Aside0.mk (below_step H01.out H12.out); have S2 := Aside0.mk (shb_new w2 (.int .i64 n) (.slice Aa ps.length ca) (.bool sd) (.int .i64 en)); clear hoa hb)
    | (go_at_call 17; (with_reducible refine (stookref21_Scan.calls k A1 c1 l1 n ps sd en e1 _ (Kd.C_below HR.out H02.out) HC.out HRS.out).mono ?_); rintro e w3 ⟨vb, rfl, hob, hb⟩; obtain ⟨Ab, cb, eb⟩ := Kd.R_slice hob; subst eb; have HBb := Aside0.mk (Kd.R_alloc hob (.cells #[.int .i64 n, .slice Ab ps.length cb, .bool sd, .int .i64 en] 33)); have HA3 := Aside0.mk (Kd.R_alloc (Kd.R_below HA.out hb) (.cells #[.int .i64 n, .slice Ab ps.length cb, .bool sd, .int .i64 en] 33)); have H13 := Aside0.mk (below_alloc (below_step H12.out hb) (.cells #[.int .i64 n, .slice Ab ps.length cb, .bool sd, .int .i64 en] 33)); have H03 := Aside0.mk (below_step H01.out H13.out); have S3 := Aside0.mk (show Shb (w3.alloc (.cells #[.int .i64 n, .slice Ab ps.length cb, .bool sd, .int .i64 en] 33)) w2.heap.size (.int .i64 n) (.slice Aa ps.length ca) (.bool sd) (.int .i64 en) from blk_alloc (S2.out.below hb) _); clear hob hb; have s0 := S3.out.c0; have s1 := S3.out.c1; have s2 := S3.out.c2; have s3 := S3.out.c3)
    | ((try (refine gate_guard (by rfl) ?_; dsimp only)); go_at_call 18; (with_reducible refine (stookref21_Same.calls k n Aa ca ps sd en n Ab cb ps sd en true _ (Kd.R_reads' HA3.out).2.2 (Kd.R_reads' HA.out).2.1 (Kd.R_reads' HBb.out).2.2 (Kd.R_reads' HBb.out).2.1 HSM.out).mono ?_); rintro e w4 ⟨rfl, hb⟩; have H14 := Aside0.mk (below_step H13.out hb); have H04 := Aside0.mk (below_step H01.out H14.out); clear hb)
    | (go_at_call 19; (with_reducible refine (shard_Foot.calls k (some ⟨g1, 0, none⟩) (l1.length + 3) l1 x xe w4 (Kd.C_below HW1.out.reads H14.out) (Nat.le_add_right _ _) HF.out).mono ?_); rintro e w5 ⟨vc, rfl, hoc, hb⟩; obtain ⟨Ac, cc, ec⟩ := Kd.R_slice hoc; subst ec; have HCc := Aside0.mk hoc; have H15 := Aside0.mk (below_step H14.out hb); have H05 := Aside0.mk (below_step H01.out H15.out); clear hoc hb)
    | (go_at_call 20; (with_reducible refine (stookref21_Foot.calls k A1 c1 l1 x xe w5 (Kd.C_below HR.out H05.out) HC.out HRF.out).mono ?_); rintro e w6 ⟨vd, rfl, hod, hb⟩; obtain ⟨Ad, cd, ed⟩ := Kd.R_slice hod; subst ed; have HDd := Aside0.mk hod; have HC6 := Aside0.mk (Kd.R_below HCc.out hb); have H16 := Aside0.mk (below_step H15.out hb); have H06 := Aside0.mk (below_step H01.out H16.out); clear hod hb)
    | ((try (refine gate_guard (by rfl) ?_; dsimp only)); go_at_call 13; (with_reducible refine (stookref00_Same.calls k Ac cc x Ad cd x true w6 (Kd.R_reads' HC6.out).2.2 (Kd.R_reads' HC6.out).2.1 (Kd.R_reads' HDd.out).2.2 (Kd.R_reads' HDd.out).2.1 HSX.out).mono ?_); rintro e w7 ⟨rfl, ⟨n1, rfl⟩⟩)
    | ((try (refine gate_guard (by rfl) ?_; dsimp only)); go_at_call 14; refine (left_calls k g1 A1 c1 l1 _ w.heap.size ((HW1.out.below H16.out).below ?sideB) ?sideC HC.out HL.out HSL.out).mono ?_; (case sideB => repeat (first | exact Below.refl _ _ | apply pw_below_drewN)); (case sideC => repeat (first | exact Kd.C_below HR.out H06.out | (with_reducible refine Kd.C_drewN ?_ _))); rintro e w8 ⟨rfl, ⟨n3, rfl⟩⟩)
    | ((try (refine gate_guard (by rfl) ?_; dsimp only)); go_at_call 15; refine (lives_calls k _ HLV.out).mono ?_; rintro e w9 ⟨rfl, hb9⟩))
  go_ret
  exact ⟨rfl, below_step (by repeat (first | exact H06.out | apply pw_below_drewN)) hb9⟩
end Go.Proofs.Ytjefgdggjchhbaa.PAll
