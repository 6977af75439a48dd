/- The walk of PageBack, by hand (under way). -/
import Derived.Test.YtkecgmoaojklbaaLives
import Derived.Test.YtkecgmoaojklbaaWideK
import Derived.BigRegion
import Derived.Test.YtkecgmoaojklbaaPAllx3
set_option linter.unusedVariables false
set_option linter.unusedSimpArgs false
namespace Go.Proofs.Ytkecgmoaojklbaa.PAll
open Go.RowKit Go.Proofs.YtkecgmoaojklbaaVW.PrintWords Go.Proofs.YtkecgmoaojklbaaVW.PrintLast Go.Proofs.YtkecgmoaojklbaaVW.PrintMore
attribute [local go_sem] max2_int min2_int max_two min_two max_three min_three max_four min_four   -- for this text's walks alone
set_option maxHeartbeats 8000000 in
set_option maxRecDepth 100000 in
theorem back_err (k : Nat) (n kind : Int) (A2 : Option Addr) (c2 : Nat) (l2 : List Int) (at_ b0 b1 b2 b3 : Int) (pe : Int) (w : World) (hr2 : Kd.C (Kd.int .u8) w A2 l2.length l2) (hc2 : l2.length ≤ c2)
    (hPP : page_Put.f k n kind l2 = some ([], pe)) (hpe : pe ≠ 0) (hbad : n < 0 ∨ n ≥ 65536 ∨ l2.length > 496) (hLv : Living k) :
    Calls Try.prog 3 #[.int .i64 n, .int .u8 kind, .slice A2 l2.length c2, .int .i64 at_, .agg #[.int .u8 b0, .int .u8 b1, .int .u8 b2, .int .u8 b3]] w fun e w' => e = .returned (.bool true) ∧ Below w.heap.size w w' := by
  have HR := Aside0.mk hr2
  have HC := Aside0.mk hc2
  have HPP := Aside0.mk hPP
  have HLV := Aside0.mk hLv
  have hpb : (pe != 0) = true := bne_iff_ne.mpr hpe
  have HB0 := Aside0.mk (below_alloc (Below.refl w.heap.size w) (.cells #[.int .u8 b0, .int .u8 b1, .int .u8 b2, .int .u8 b3] 23))
  clear hr2 hc2 hPP hLv hpe
  by_cases c1 : n < 0
  · clear hbad
    go_enter Try.func3, Try.ntmps3
    go_wp2_with (first
      | (go_at_call 7; (with_reducible refine (page_Put.calls k n kind A2 c2 l2 [] pe _ (Kd.C_alloc HR.out _) HC.out HPP.out).mono ?_); rintro e w2 ⟨vb, rfl, hob, hb2⟩; have H2 := Aside0.mk (below_step HB0.out hb2); clear hob hb2)
      | ((try (refine gate_guard (by rfl) ?_; dsimp only)); go_at_call 8; refine (HLV.out.calls _).mono ?_; rintro e w6 ⟨rfl, hb6⟩))
    go_ret
    exact ⟨rfl, below_step H2.out hb6⟩
  · by_cases c2_ : 65536 ≤ n
    · clear hbad
      go_enter Try.func3, Try.ntmps3
      go_wp2_with (first
        | (go_at_call 7; (with_reducible refine (page_Put.calls k n kind A2 c2 l2 [] pe _ (Kd.C_alloc HR.out _) HC.out HPP.out).mono ?_); rintro e w2 ⟨vb, rfl, hob, hb2⟩; have H2 := Aside0.mk (below_step HB0.out hb2); clear hob hb2)
        | ((try (refine gate_guard (by rfl) ?_; dsimp only)); go_at_call 8; refine (HLV.out.calls _).mono ?_; rintro e w6 ⟨rfl, hb6⟩))
      go_ret
      exact ⟨rfl, below_step H2.out hb6⟩
    · have c3 : (496 : Int) < (l2.length : Int) := by omega
      clear hbad
      go_enter Try.func3, Try.ntmps3
      go_wp2_with (first
        | (go_at_call 7; (with_reducible refine (page_Put.calls k n kind A2 c2 l2 [] pe _ (Kd.C_alloc HR.out _) HC.out HPP.out).mono ?_); rintro e w2 ⟨vb, rfl, hob, hb2⟩; have H2 := Aside0.mk (below_step HB0.out hb2); clear hob hb2)
        | ((try (refine gate_guard (by rfl) ?_; dsimp only)); go_at_call 8; refine (HLV.out.calls _).mono ?_; rintro e w6 ⟨rfl, hb6⟩))
      go_ret
      exact ⟨rfl, below_step H2.out hb6⟩
/-- The four bytes, as they are told by number. -/
def by4 (b0 b1 b2 b3 : Int) : Nat → Int
  | 0 => b0
  | 1 => b1
  | 2 => b2
  | _ => b3
/-- The page, whose bytes are changed one by one. -/
def bs (by_ : Nat → Int) (m : Nat) (pb : List Int) : Nat → List Int
  | 0 => pb
  | j + 1 => (bs by_ m pb j).set (m + j) (bits .xor .u8 (rd (bs by_ m pb j) ((m + j : Nat) : Int)) (by_ j))
theorem bs_len (by_ : Nat → Int) (m : Nat) (pb : List Int) : ∀ j, (bs by_ m pb j).length = pb.length
  | 0 => rfl
  | j + 1 => by rw [bs, List.length_set, bs_len by_ m pb j]
theorem eq_four (b0 b1 b2 b3 : Int) (W : World) : (binOp .eql 23 (.agg #[.int .u8 b0, .int .u8 b1, .int .u8 b2, .int .u8 b3]) (.agg #[.int .u8 0, .int .u8 0, .int .u8 0, .int .u8 0])).run Try.prog W = .ok (.bool (decide ([b0, b1, b2, b3] = [0, 0, 0, 0]))) W := by
  obtain ⟨i0, hi, hz0, hz1, hz2⟩ := info_parts info5
  rw [run_eql_struct, Op.equalIn]
  simp only [Sem.run_bind, run_underlying Try.underlying23, Result.andThen_ok, sizeOf, typeInfo, run_program, hi, hz1, Sem.run_pure]
  simp only [Std.Legacy.Range.forIn_eq_forIn_range', Std.Legacy.Range.size, Nat.sub_zero, Nat.add_one_sub_one, Nat.div_one]
  rw [show (#[Value.int .u8 b0, .int .u8 b1, .int .u8 b2, .int .u8 b3] : Array Value) = bytes [b0, b1, b2, b3] from rfl, show (#[Value.int .u8 0, .int .u8 0, .int .u8 0, .int .u8 0] : Array Value) = bytes [0, 0, 0, 0] from rfl]
  rw [eq_from 9998 W [b0, b1, b2, b3] [0, 0, 0, 0] 4 rfl rfl 4 0 (by omega)]
  rw [List.drop_zero, List.drop_zero]
  by_cases h : [b0, b1, b2, b3] = [0, 0, 0, 0]
  · rw [if_pos h, decide_eq_true h]
    rfl
  · rw [if_neg h, decide_eq_false h]
    rfl
theorem box4 {w : World} {g : Nat} {t : TypeId} {b0 b1 b2 b3 : Int} (h : w.heap[g]? = some (.cells #[.int .u8 b0, .int .u8 b1, .int .u8 b2, .int .u8 b3] t (0, 0))) (j : Nat) (hj : j < 4) : w.cell? ⟨g, j, none⟩ = some (.int .u8 (by4 b0 b1 b2 b3 j)) := by
  rw [cell_of_row _ _ _ _ _ _ h]
  match j, hj with
  | 0, _ => rfl
  | 1, _ => rfl
  | 2, _ => rfl
  | 3, _ => rfl
set_option maxHeartbeats 8000000 in
set_option maxRecDepth 100000 in
theorem back_walk (k : Nat) (n kind : Int) (A2 : Option Addr) (c2 : Nat) (l2 : List Int) (at_ b0 b1 b2 b3 : Int) (m : Nat) (pb : List Int) (y1 : Int) (y2 : List Int) (y3 z1 : Int) (z2 : List Int) (z3 : Int) (w : World) (hr2 : Kd.C (Kd.int .u8) w A2 l2.length l2) (hc2 : l2.length ≤ c2)
    (hPP : page_Put.f k n kind l2 = some (pb, 0)) (hPG : page_Get.f k n pb = some (kind, l2, 0)) (hlen : pb.length = 512) (hSl : stookref00_Same.f k l2 l2 = some true) (hSp : stookref00_Same.f k pb pb = some true)
    (h0 : 0 ≤ at_) (hm : at_ % 509 = (m : Int)) (hLv : Living k) (hPG2 : page_Get.f k n (bs (by4 b0 b1 b2 b3) m pb 4) = some (y1, y2, y3)) (hPG3 : page_Get.f k n (List.replicate 512 0) = some (z1, z2, z3)) (hz3 : z3 ≠ 0) (hyq : (y3 == 0) = decide ([b0, b1, b2, b3] = [0, 0, 0, 0])) :
    Calls Try.prog 3 #[.int .i64 n, .int .u8 kind, .slice A2 l2.length c2, .int .i64 at_, .agg #[.int .u8 b0, .int .u8 b1, .int .u8 b2, .int .u8 b3]] w fun e w' => e = .returned (.bool true) ∧ Below w.heap.size w w' := by
  have HR := Aside0.mk hr2
  have HC := Aside0.mk hc2
  have HPP := Aside0.mk hPP
  have HPG := Aside0.mk hPG
  have HL := Aside0.mk hlen
  have HSL := Aside0.mk hSl
  have HSP := Aside0.mk hSp
  have HLV := Aside0.mk hLv
  have HPG2 := Aside0.mk hPG2
  have HPG3 := Aside0.mk hPG3
  have HZ3 := Aside0.mk hz3
  have HYQ := Aside0.mk hyq
  have HB0 := Aside0.mk (below_alloc (Below.refl w.heap.size w) (.cells #[.int .u8 b0, .int .u8 b1, .int .u8 b2, .int .u8 b3] 23))
  clear hr2 hc2 hPP hPG hlen hSl hSp hLv hPG2 hPG3 hz3 hyq
  go_enter Try.func3, Try.ntmps3
  go_wp2_with (first
    | (go_at_call 7; (with_reducible refine (page_Put.calls k n kind A2 c2 l2 pb 0 _ (Kd.C_alloc HR.out _) HC.out HPP.out).mono ?_); rintro e w2 ⟨vb, rfl, hob, hb2⟩; obtain ⟨Ab, cb, eb⟩ := Kd.R_slice hob; subst eb; have HOB := Aside0.mk hob; have H02 := Aside0.mk (below_step HB0.out hb2); have H2 := Aside0.mk hb2; clear hob hb2)
    | (go_at_call 9; (with_reducible refine (page_Get.calls k n Ab cb pb kind l2 0 w2 (Kd.R_reads' HOB.out).2.2 (Kd.R_reads' HOB.out).2.1 HPG.out).mono ?_); rintro e w3 ⟨vc, rfl, hoc, _, hb3⟩; obtain ⟨Ac, cc, ec⟩ := Kd.R_slice hoc; subst ec; have HOC := Aside0.mk hoc; have H23 := Aside0.mk hb3; have H03 := Aside0.mk (below_step H02.out hb3); clear hoc hb3)
    | ((try (refine gate_guard (by rfl) ?_; dsimp only)); go_at_call 10; (with_reducible refine (stookref00_Same.calls k Ac cc l2 A2 c2 l2 true w3 (Kd.R_reads' HOC.out).2.2 (Kd.R_reads' HOC.out).2.1 (Kd.C_below HR.out H03.out) HC.out HSL.out).mono ?_); rintro e w4 ⟨rfl, ⟨n1, rfl⟩⟩)
    | (go_at_call 7; (with_reducible refine (page_Put.calls k n kind Ac cc l2 pb 0 (w3.drewN n1) (Kd.C_drewN (Kd.R_reads' HOC.out).2.2 n1) (Kd.R_reads' HOC.out).2.1 HPP.out).mono ?_); rintro e w5 ⟨vd, rfl, hod, hb5⟩; obtain ⟨Ad, cd, ed⟩ := Kd.R_slice hod; subst ed; have HOD := Aside0.mk hod; have H35 := Aside0.mk (below_step (pw_below_drewN (Below.refl _ _) n1) hb5); have H25 := Aside0.mk (below_step H23.out H35.out); have H05 := Aside0.mk (below_step H03.out H35.out); clear hod hb5)
    | ((try (refine gate_guard (by rfl) ?_; dsimp only)); go_at_call 10; (with_reducible refine (stookref00_Same.calls k Ad cd pb Ab cb pb true w5 (Kd.R_reads' HOD.out).2.2 (Kd.R_reads' HOD.out).2.1 (Kd.R_reads' (Kd.R_below HOB.out H25.out)).2.2 (Kd.R_reads' HOB.out).2.1 HSP.out).mono ?_); rintro e w6 ⟨rfl, ⟨n2, rfl⟩⟩))
  rw [hm]
  obtain ⟨g, cap, e1, hg, hlt, _⟩ := Kd.R_form HOB.out (by rw [HL.out]; decide)
  injection e1 with e2 e3 e4
  subst e2
  have hg2 : w.heap.size < g := by
    have : (w.alloc (.cells #[.int .u8 b0, .int .u8 b1, .int .u8 b2, .int .u8 b3] 23)).heap.size = w.heap.size + 1 := Array.size_push ..
    omega
  have HG := Aside0.mk hg2
  have hm4 : m ≤ 508 := by omega
  have HB2 := Aside0.mk (below_step H2.out H25.out)
  have hR6 : Kd.R (Kd.int .u8) 5 (w5.drewN n2) (w.heap.size + 1) (fun _ => True) (.slice (some ⟨g, 0, none⟩) pb.length cb) pb := by
    have h1 := Kd.R_below (Kd.R_below HOB.out H25.out) (pw_below_drewN (Below.refl _ _) n2)
    rwa [show (w.alloc (.cells #[.int .u8 b0, .int .u8 b1, .int .u8 b2, .int .u8 b3] 23)).heap.size = w.heap.size + 1 from Array.size_push ..] at h1
  have HR6 := Aside0.mk hR6
  have HX6 : Aside0 ((w5.drewN n2).heap[w.heap.size]? = some (.cells #[.int .u8 b0, .int .u8 b1, .int .u8 b2, .int .u8 b3] 23 (0, 0))) := ⟨((pw_below_drewN HB2.out n2).block w.heap.size (by rw [show (w.alloc (.cells #[.int .u8 b0, .int .u8 b1, .int .u8 b2, .int .u8 b3] 23)).heap.size = w.heap.size + 1 from Array.size_push ..]; omega)).trans (heap_alloc_new w _)⟩
  have HB6 := Aside0.mk (pw_below_drewN H05.out n2)
  clear hg hlt e3 e4 hg2 hR6
  go_loopw [16] (fun i wr => ∃ j : Nat, j ≤ 4 ∧ i = .int .i64 j ∧ Aside0 (Kd.R (Kd.int .u8) 5 wr (w.heap.size + 1) (fun _ => True) (.slice (some ⟨g, 0, none⟩) pb.length cb) (bs (by4 b0 b1 b2 b3) m pb j)) ∧ Aside0 (wr.heap[w.heap.size]? = some (.cells #[.int .u8 b0, .int .u8 b1, .int .u8 b2, .int .u8 b3] 23 (0, 0))) ∧ Aside0 (Below w.heap.size w wr)) (fun i _ => 4 - (intOf i).toNat)
  case atStart => exact ⟨0, Nat.zero_le _, rfl, HR6, HX6, HB6⟩
  case round =>
    clear HR6 HX6 HB6
    obtain ⟨j, hj, rfl, hP, hX, hB⟩ := hrel
    by_cases hjl : j < 4
    · have q1 : (0 : Int) ≤ (m : Int) + (j : Int) := by omega
      have q2 : (m : Int) + (j : Int) < 512 := by omega
      have q3 : (j : Int) < 4 := by omega
      have q4 : (0 : Int) ≤ (j : Int) := by omega
      have q5 : ((m : Int) + (j : Int)).toNat = m + j := by omega
      have hl := HL.out
      have cj : wr.cell? ⟨w.heap.size, j, none⟩ = some (.int .u8 (by4 b0 b1 b2 b3 j)) := box4 hX.out j hjl
      obtain ⟨cb1, fb1⟩ := Kd.R_celln 0 hP.out ((m : Int) + (j : Int)) q1 (by omega)
      rw [q5] at cb1 fb1
      have hS := Kd.R_putn hP.out ((m : Int) + (j : Int)) (bits .xor .u8 (rd (bs (by4 b0 b1 b2 b3) m pb j) ((m + j : Nat) : Int)) (by4 b0 b1 b2 b3 j))
      rw [q5] at hS
      have HS := Aside0.mk hS
      have hne : ¬ (w.heap.size = g) := by have := HG.out; omega
      have e8 : rdOf 0 (bs (by4 b0 b1 b2 b3) m pb j) ((m : Int) + (j : Int)) = rd (bs (by4 b0 b1 b2 b3) m pb j) ((m + j : Nat) : Int) := by rw [← Int.natCast_add]; rfl
      rw [e8] at cb1
      clear hS e8
      obtain ⟨X, hXd⟩ : ∃ X, X = rd (bs (by4 b0 b1 b2 b3) m pb j) ((m + j : Nat) : Int) := ⟨_, rfl⟩
      rw [← hXd] at cb1 HS
      have HXd := Aside0.mk hXd
      clear hXd
      go_wp2
      go_region
      go_wp2
      go_roundw
      case rel => exact ⟨j + 1, by omega, by first | rfl | go_num, ⟨by rw [bs, ← HXd.out]; exact HS.out⟩, ⟨(Below.heap_setCell wr ⟨g, m + j, none⟩ _ w.heap.size hne).trans hX.out⟩, ⟨(hB.out.setCell (p := ⟨g, m + j, none⟩) (Nat.le_of_lt HG.out) _).drew⟩⟩
      case measure => simp [intOf]; omega
    · have ej : j = 4 := by omega
      subst ej
      clear hjl hj
      obtain ⟨B4, hB4⟩ : ∃ B4, B4 = bs (by4 b0 b1 b2 b3) m pb 4 := ⟨_, rfl⟩
      have hl4 : B4.length = 512 := by rw [hB4, bs_len, HL.out]
      rw [← hB4] at hP
      have hG2 := HPG2.out
      rw [← hB4] at hG2
      have hPl := hP.out
      rw [HL.out] at hPl ⊢
      have hPq : Kd.R (Kd.int .u8) 5 wr (w.heap.size + 1) (fun _ => True) (.slice (some ⟨g, 0, none⟩) B4.length cb) B4 := by rw [hl4]; exact hPl
      have hg2 := page_Get.calls k n (some ⟨g, 0, none⟩) cb B4 y1 y2 y3 wr (Kd.R_reads' hPq).2.2 (Kd.R_reads' hPq).2.1 hG2
      rw [hl4] at hg2
      have HG2 := Aside0.mk hg2
      clear hP hPl hG2 hB4 hPq hg2
      have hz3b : (z3 != 0) = true := bne_iff_ne.mpr HZ3.out
      obtain ⟨yb, hyb⟩ : ∃ yb : Bool, (y3 == 0) = yb := ⟨_, rfl⟩
      have heq := eq_four b0 b1 b2 b3
      have hd : decide ([b0, b1, b2, b3] = [0, 0, 0, 0]) = yb := HYQ.out.symm.trans hyb
      rw [hd] at heq
      clear hd
      go_wp2_with (first
        | (go_at_call 9; (with_reducible refine HG2.out.mono ?_); rintro e w7 ⟨vx, rfl, hox, _, hb7⟩; obtain ⟨Ax, cx, ex⟩ := Kd.R_slice hox; subst ex; have HB7 := Aside0.mk (hB.out.trans (hb7.mono hB.out.size)); have HX7 := Aside0.mk ((hb7.block w.heap.size (World.block_lt_of_cell? _ _ (box4 hX.out 0 (by decide)))).trans hX.out); obtain ⟨cs, hrun, hRz⟩ := made_R w7 w7.heap.size 512 (Nat.le_refl _) (by omega); have hmk : (Instr.makeSlice 22 (.int .i64 512) (.int .i64 512)).run Try.prog w7 = .ok (.slice (some ⟨w7.heap.size, 0, none⟩) 512 512) (w7.alloc (.cells cs 5)) := hrun; have hg3 := page_Get.calls k n (some ⟨w7.heap.size, 0, none⟩) 512 (List.replicate 512 0) z1 z2 z3 (w7.alloc (.cells cs 5)) (Kd.R_reads' hRz).2.2 (Nat.le_refl _) HPG3.out; rw [List.length_replicate] at hg3; have HG3 := Aside0.mk hg3; clear hox hb7 hRz hg3 hrun)
        | (go_at_call 9; (with_reducible refine HG3.out.mono ?_); rintro e w8 ⟨vy, rfl, hoy, _, hb8⟩; obtain ⟨Ay, cy, ey⟩ := Kd.R_slice hoy; subst ey; have hb78 := Below.trans (below_alloc (Below.refl w7.heap.size w7) (.cells cs 5)) (hb8.mono (below_alloc (Below.refl w7.heap.size w7) (.cells cs 5)).size); have HB8 := Aside0.mk (HB7.out.trans (hb78.mono HB7.out.size)); have hx8 := (hb78.block w.heap.size (World.block_lt_of_cell? _ _ (box4 HX7.out 0 (by decide)))).trans HX7.out; have c80 : w8.cell? ⟨w.heap.size, 0, none⟩ = some (.int .u8 b0) := box4 hx8 0 (by decide); have c81 : w8.cell? ⟨w.heap.size, 1, none⟩ = some (.int .u8 b1) := box4 hx8 1 (by decide); have c82 : w8.cell? ⟨w.heap.size, 2, none⟩ = some (.int .u8 b2) := box4 hx8 2 (by decide); have c83 : w8.cell? ⟨w.heap.size, 3, none⟩ = some (.int .u8 b3) := box4 hx8 3 (by decide); clear hoy hb8 hb78 hx8)
        | ((try (refine gate_guard (by rfl) ?_; dsimp only)); go_at_call 8; refine (HLV.out.calls _).mono ?_; rintro e w9 ⟨rfl, hb9⟩))
      go_ret
      exact ⟨by simp, below_step HB8.out hb9⟩
set_option maxHeartbeats 8000000 in
set_option maxRecDepth 100000 in
theorem back_walk_neg (k : Nat) (n kind : Int) (A2 : Option Addr) (c2 : Nat) (l2 : List Int) (at_ b0 b1 b2 b3 : Int) (m : Nat) (pb : List Int) (y1 : Int) (y2 : List Int) (y3 z1 : Int) (z2 : List Int) (z3 : Int) (w : World) (hr2 : Kd.C (Kd.int .u8) w A2 l2.length l2) (hc2 : l2.length ≤ c2)
    (hPP : page_Put.f k n kind l2 = some (pb, 0)) (hPG : page_Get.f k n pb = some (kind, l2, 0)) (hlen : pb.length = 512) (hSl : stookref00_Same.f k l2 l2 = some true) (hSp : stookref00_Same.f k pb pb = some true)
    (h0 : at_ < 0) (h1 : -9223372036854775808 ≤ at_) (hm : -(at_ + 1).tmod 509 = (m : Int)) (hm4 : m ≤ 508) (hLv : Living k) (hPG2 : page_Get.f k n (bs (by4 b0 b1 b2 b3) m pb 4) = some (y1, y2, y3)) (hPG3 : page_Get.f k n (List.replicate 512 0) = some (z1, z2, z3)) (hz3 : z3 ≠ 0) (hyq : (y3 == 0) = decide ([b0, b1, b2, b3] = [0, 0, 0, 0])) :
    Calls Try.prog 3 #[.int .i64 n, .int .u8 kind, .slice A2 l2.length c2, .int .i64 at_, .agg #[.int .u8 b0, .int .u8 b1, .int .u8 b2, .int .u8 b3]] w fun e w' => e = .returned (.bool true) ∧ Below w.heap.size w w' := by
  have HR := Aside0.mk hr2
  have HC := Aside0.mk hc2
  have HPP := Aside0.mk hPP
  have HPG := Aside0.mk hPG
  have HL := Aside0.mk hlen
  have HSL := Aside0.mk hSl
  have HSP := Aside0.mk hSp
  have HLV := Aside0.mk hLv
  have HPG2 := Aside0.mk hPG2
  have HPG3 := Aside0.mk hPG3
  have HZ3 := Aside0.mk hz3
  have HYQ := Aside0.mk hyq
  have HB0 := Aside0.mk (below_alloc (Below.refl w.heap.size w) (.cells #[.int .u8 b0, .int .u8 b1, .int .u8 b2, .int .u8 b3] 23))
  clear hr2 hc2 hPP hPG hlen hSl hSp hLv hPG2 hPG3 hz3 hyq
  have h2 : 0 ≤ -(at_ + 1) := by omega
  have h3 : -(at_ + 1) ≤ 9223372036854775807 := by omega
  go_enter Try.func3, Try.ntmps3
  go_wp2_with (first
    | (go_at_call 7; (with_reducible refine (page_Put.calls k n kind A2 c2 l2 pb 0 _ (Kd.C_alloc HR.out _) HC.out HPP.out).mono ?_); rintro e w2 ⟨vb, rfl, hob, hb2⟩; obtain ⟨Ab, cb, eb⟩ := Kd.R_slice hob; subst eb; have HOB := Aside0.mk hob; have H02 := Aside0.mk (below_step HB0.out hb2); have H2 := Aside0.mk hb2; clear hob hb2)
    | (go_at_call 9; (with_reducible refine (page_Get.calls k n Ab cb pb kind l2 0 w2 (Kd.R_reads' HOB.out).2.2 (Kd.R_reads' HOB.out).2.1 HPG.out).mono ?_); rintro e w3 ⟨vc, rfl, hoc, _, hb3⟩; obtain ⟨Ac, cc, ec⟩ := Kd.R_slice hoc; subst ec; have HOC := Aside0.mk hoc; have H23 := Aside0.mk hb3; have H03 := Aside0.mk (below_step H02.out hb3); clear hoc hb3)
    | ((try (refine gate_guard (by rfl) ?_; dsimp only)); go_at_call 10; (with_reducible refine (stookref00_Same.calls k Ac cc l2 A2 c2 l2 true w3 (Kd.R_reads' HOC.out).2.2 (Kd.R_reads' HOC.out).2.1 (Kd.C_below HR.out H03.out) HC.out HSL.out).mono ?_); rintro e w4 ⟨rfl, ⟨n1, rfl⟩⟩)
    | (go_at_call 7; (with_reducible refine (page_Put.calls k n kind Ac cc l2 pb 0 (w3.drewN n1) (Kd.C_drewN (Kd.R_reads' HOC.out).2.2 n1) (Kd.R_reads' HOC.out).2.1 HPP.out).mono ?_); rintro e w5 ⟨vd, rfl, hod, hb5⟩; obtain ⟨Ad, cd, ed⟩ := Kd.R_slice hod; subst ed; have HOD := Aside0.mk hod; have H35 := Aside0.mk (below_step (pw_below_drewN (Below.refl _ _) n1) hb5); have H25 := Aside0.mk (below_step H23.out H35.out); have H05 := Aside0.mk (below_step H03.out H35.out); clear hod hb5)
    | ((try (refine gate_guard (by rfl) ?_; dsimp only)); go_at_call 10; (with_reducible refine (stookref00_Same.calls k Ad cd pb Ab cb pb true w5 (Kd.R_reads' HOD.out).2.2 (Kd.R_reads' HOD.out).2.1 (Kd.R_reads' (Kd.R_below HOB.out H25.out)).2.2 (Kd.R_reads' HOB.out).2.1 HSP.out).mono ?_); rintro e w6 ⟨rfl, ⟨n2, rfl⟩⟩))
  obtain ⟨g, cap, e1, hg, hlt, _⟩ := Kd.R_form HOB.out (by rw [HL.out]; decide)
  injection e1 with e2 e3 e4
  subst e2
  have hg2 : w.heap.size < g := by
    have : (w.alloc (.cells #[.int .u8 b0, .int .u8 b1, .int .u8 b2, .int .u8 b3] 23)).heap.size = w.heap.size + 1 := Array.size_push ..
    omega
  have HG := Aside0.mk hg2
  have HB2 := Aside0.mk (below_step H2.out H25.out)
  have hR6 : Kd.R (Kd.int .u8) 5 (w5.drewN n2) (w.heap.size + 1) (fun _ => True) (.slice (some ⟨g, 0, none⟩) pb.length cb) pb := by
    have h1 := Kd.R_below (Kd.R_below HOB.out H25.out) (pw_below_drewN (Below.refl _ _) n2)
    rwa [show (w.alloc (.cells #[.int .u8 b0, .int .u8 b1, .int .u8 b2, .int .u8 b3] 23)).heap.size = w.heap.size + 1 from Array.size_push ..] at h1
  have HR6 := Aside0.mk hR6
  have HX6 : Aside0 ((w5.drewN n2).heap[w.heap.size]? = some (.cells #[.int .u8 b0, .int .u8 b1, .int .u8 b2, .int .u8 b3] 23 (0, 0))) := ⟨((pw_below_drewN HB2.out n2).block w.heap.size (by rw [show (w.alloc (.cells #[.int .u8 b0, .int .u8 b1, .int .u8 b2, .int .u8 b3] 23)).heap.size = w.heap.size + 1 from Array.size_push ..]; omega)).trans (heap_alloc_new w _)⟩
  have HB6 := Aside0.mk (pw_below_drewN H05.out n2)
  clear hg hlt e3 e4 hg2 hR6
  go_loopw [16] (fun i wr => ∃ j : Nat, j ≤ 4 ∧ i = .int .i64 j ∧ Aside0 (Kd.R (Kd.int .u8) 5 wr (w.heap.size + 1) (fun _ => True) (.slice (some ⟨g, 0, none⟩) pb.length cb) (bs (by4 b0 b1 b2 b3) m pb j)) ∧ Aside0 (wr.heap[w.heap.size]? = some (.cells #[.int .u8 b0, .int .u8 b1, .int .u8 b2, .int .u8 b3] 23 (0, 0))) ∧ Aside0 (Below w.heap.size w wr)) (fun i _ => 4 - (intOf i).toNat)
  case atStart => exact ⟨0, Nat.zero_le _, rfl, HR6, HX6, HB6⟩
  case round =>
    clear HR6 HX6 HB6
    obtain ⟨j, hj, rfl, hP, hX, hB⟩ := hrel
    by_cases hjl : j < 4
    · have q1 : (0 : Int) ≤ (m : Int) + (j : Int) := by omega
      have q2 : (m : Int) + (j : Int) < 512 := by omega
      have q3 : (j : Int) < 4 := by omega
      have q4 : (0 : Int) ≤ (j : Int) := by omega
      have q5 : ((m : Int) + (j : Int)).toNat = m + j := by omega
      have hl := HL.out
      have cj : wr.cell? ⟨w.heap.size, j, none⟩ = some (.int .u8 (by4 b0 b1 b2 b3 j)) := box4 hX.out j hjl
      obtain ⟨cb1, fb1⟩ := Kd.R_celln 0 hP.out ((m : Int) + (j : Int)) q1 (by omega)
      rw [q5] at cb1 fb1
      have hS := Kd.R_putn hP.out ((m : Int) + (j : Int)) (bits .xor .u8 (rd (bs (by4 b0 b1 b2 b3) m pb j) ((m + j : Nat) : Int)) (by4 b0 b1 b2 b3 j))
      rw [q5] at hS
      have HS := Aside0.mk hS
      have hne : ¬ (w.heap.size = g) := by have := HG.out; omega
      have e8 : rdOf 0 (bs (by4 b0 b1 b2 b3) m pb j) ((m : Int) + (j : Int)) = rd (bs (by4 b0 b1 b2 b3) m pb j) ((m + j : Nat) : Int) := by rw [← Int.natCast_add]; rfl
      rw [e8] at cb1
      clear hS e8
      obtain ⟨X, hXd⟩ : ∃ X, X = rd (bs (by4 b0 b1 b2 b3) m pb j) ((m + j : Nat) : Int) := ⟨_, rfl⟩
      rw [← hXd] at cb1 HS
      have HXd := Aside0.mk hXd
      clear hXd
      go_wp2
      go_region
      go_wp2
      go_roundw
      case rel => exact ⟨j + 1, by omega, by first | rfl | go_num, ⟨by rw [bs, ← HXd.out]; exact HS.out⟩, ⟨(Below.heap_setCell wr ⟨g, m + j, none⟩ _ w.heap.size hne).trans hX.out⟩, ⟨(hB.out.setCell (p := ⟨g, m + j, none⟩) (Nat.le_of_lt HG.out) _).drew⟩⟩
      case measure => simp [intOf]; omega
    · have ej : j = 4 := by omega
      subst ej
      clear hjl hj
      obtain ⟨B4, hB4⟩ : ∃ B4, B4 = bs (by4 b0 b1 b2 b3) m pb 4 := ⟨_, rfl⟩
      have hl4 : B4.length = 512 := by rw [hB4, bs_len, HL.out]
      rw [← hB4] at hP
      have hG2 := HPG2.out
      rw [← hB4] at hG2
      have hPl := hP.out
      rw [HL.out] at hPl ⊢
      have hPq : Kd.R (Kd.int .u8) 5 wr (w.heap.size + 1) (fun _ => True) (.slice (some ⟨g, 0, none⟩) B4.length cb) B4 := by rw [hl4]; exact hPl
      have hg2 := page_Get.calls k n (some ⟨g, 0, none⟩) cb B4 y1 y2 y3 wr (Kd.R_reads' hPq).2.2 (Kd.R_reads' hPq).2.1 hG2
      rw [hl4] at hg2
      have HG2 := Aside0.mk hg2
      clear hP hPl hG2 hB4 hPq hg2
      have hz3b : (z3 != 0) = true := bne_iff_ne.mpr HZ3.out
      obtain ⟨yb, hyb⟩ : ∃ yb : Bool, (y3 == 0) = yb := ⟨_, rfl⟩
      have heq := eq_four b0 b1 b2 b3
      have hd : decide ([b0, b1, b2, b3] = [0, 0, 0, 0]) = yb := HYQ.out.symm.trans hyb
      rw [hd] at heq
      clear hd
      go_wp2_with (first
        | (go_at_call 9; (with_reducible refine HG2.out.mono ?_); rintro e w7 ⟨vx, rfl, hox, _, hb7⟩; obtain ⟨Ax, cx, ex⟩ := Kd.R_slice hox; subst ex; have HB7 := Aside0.mk (hB.out.trans (hb7.mono hB.out.size)); have HX7 := Aside0.mk ((hb7.block w.heap.size (World.block_lt_of_cell? _ _ (box4 hX.out 0 (by decide)))).trans hX.out); obtain ⟨cs, hrun, hRz⟩ := made_R w7 w7.heap.size 512 (Nat.le_refl _) (by omega); have hmk : (Instr.makeSlice 22 (.int .i64 512) (.int .i64 512)).run Try.prog w7 = .ok (.slice (some ⟨w7.heap.size, 0, none⟩) 512 512) (w7.alloc (.cells cs 5)) := hrun; have hg3 := page_Get.calls k n (some ⟨w7.heap.size, 0, none⟩) 512 (List.replicate 512 0) z1 z2 z3 (w7.alloc (.cells cs 5)) (Kd.R_reads' hRz).2.2 (Nat.le_refl _) HPG3.out; rw [List.length_replicate] at hg3; have HG3 := Aside0.mk hg3; clear hox hb7 hRz hg3 hrun)
        | (go_at_call 9; (with_reducible refine HG3.out.mono ?_); rintro e w8 ⟨vy, rfl, hoy, _, hb8⟩; obtain ⟨Ay, cy, ey⟩ := Kd.R_slice hoy; subst ey; have hb78 := Below.trans (below_alloc (Below.refl w7.heap.size w7) (.cells cs 5)) (hb8.mono (below_alloc (Below.refl w7.heap.size w7) (.cells cs 5)).size); have HB8 := Aside0.mk (HB7.out.trans (hb78.mono HB7.out.size)); have hx8 := (hb78.block w.heap.size (World.block_lt_of_cell? _ _ (box4 HX7.out 0 (by decide)))).trans HX7.out; have c80 : w8.cell? ⟨w.heap.size, 0, none⟩ = some (.int .u8 b0) := box4 hx8 0 (by decide); have c81 : w8.cell? ⟨w.heap.size, 1, none⟩ = some (.int .u8 b1) := box4 hx8 1 (by decide); have c82 : w8.cell? ⟨w.heap.size, 2, none⟩ = some (.int .u8 b2) := box4 hx8 2 (by decide); have c83 : w8.cell? ⟨w.heap.size, 3, none⟩ = some (.int .u8 b3) := box4 hx8 3 (by decide); clear hoy hb8 hb78 hx8)
        | ((try (refine gate_guard (by rfl) ?_; dsimp only)); go_at_call 8; refine (HLV.out.calls _).mono ?_; rintro e w9 ⟨rfl, hb9⟩))
      go_ret
      exact ⟨by simp, below_step HB8.out hb9⟩
end Go.Proofs.Ytkecgmoaojklbaa.PAll
