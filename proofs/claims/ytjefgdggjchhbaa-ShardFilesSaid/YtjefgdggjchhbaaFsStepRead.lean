/- stooklaw21.step, where a record is read, walked by hand. Conditions: the disk and the bytes lie in memory as told; what the layer's functions answer is told. -/
import Derived.Test.YtjefgdggjchhbaaFsStep
import Derived.Test.YtjefgdggjchhbaaFsSpoil
import Derived.Test.YtjefgdggjchhbaaPAllx12
set_option linter.unusedVariables false
set_option linter.unusedSimpArgs false
namespace Go.Proofs.Ytjefgdggjchhbaa.PAll
open Go.RowKit Go.Proofs.YtjefgdggjchhbaaVW.PrintWords Go.Proofs.YtjefgdggjchhbaaVW.PrintLast Go.Proofs.YtjefgdggjchhbaaVW.PrintMore
attribute [local go_sem] max2_int min2_int max_two min_two
set_option maxHeartbeats 8000000
set_option maxRecDepth 100000
theorem sread_told {w : World} {B g : Nat} {room : Int} {F : List Int} {m k : Nat} {at_ : Int} (h : Disk w B g room F m) (hB : B ≤ w.heap.size) (hF : F.length ≤ 1048576) {r : List Int × Int × Int} {c : List Int} {q : Int} (hg : frame_Get.f k F at_ = some r) (hq : rgot at_ r = (c, q)) :
    Calls Try.prog 24 #[.pointer (some ⟨g, 0, none⟩), .string nameS, .int .i64 at_] w fun e w' => ∃ v, e = .returned (.tuple #[v, .int .i64 q]) ∧ Sp w' w.heap.size v c ∧ Below w.heap.size w w' := by
  have := sread_any h hB hF hg
  rw [hq] at this
  exact this
theorem step_read_any {w0 w : World} {g : Nat} {room : Int} {F : List Int} {m : Nat} {Af : Option Addr} {cf : Nat} {free : Int} {Ad : Option Addr} {D : List Int} {cd k : Nat} (h : At w0 w g room F m (.slice Af F.length cf)) (hD : Kd.C (Kd.int .u8) w0 Ad D.length D) (hc : D.length ≤ cd) (hr : room ≤ 1048576) (hF : (F.length : Int) ≤ room) (hm : m ≤ 10000) {r1 : Int} {ps : List Int} {r3 : Bool} {r4 r5 : Int} {at_ : Int} {R : List Int × Int × Int} {c : List Int} {q : Int} (h1 : stookref21_Scan.f k F = some (r1, ps, r3, r4, r5)) (h2 : frame_Get.f k F at_ = some R) (h3 : stookref21_Read.f k F at_ = some (c, q)) (h4 : rgot at_ R = (c, q)) (h5 : stookref00_Same.f k c c = some true) :
    Calls Try.prog 28 #[.pointer (some ⟨g, 0, none⟩), .slice Af F.length cf, .agg #[.int .i64 2, .int .i64 at_, .bool true, .slice Ad D.length cd], .int .i64 free] w fun e w' => e = .returned (.tuple #[.slice Af F.length cf, .bool true]) ∧ At w0 w' g room F m (.slice Af F.length cf) := by
  have H0 := Aside0.mk h
  have HD := Aside0.mk hD
  have HC := Aside0.mk hc
  have HR := Aside0.mk hr
  have HF := Aside0.mk hF
  have HM := Aside0.mk hm
  have HFl := Aside0.mk (show F.length ≤ 1048576 by omega)
  have b0 := Aside0.mk (heap_alloc_new w (.cells #[.int .i64 2, .int .i64 at_, .bool true, .slice Ad D.length cd] 59))
  have HL0 := Aside0.mk h.bel.size
  have ha0 := below_alloc (Below.refl w.heap.size w) (.cells #[.int .i64 2, .int .i64 at_, .bool true, .slice Ad D.length cd] 59)
  have H1 := Aside0.mk (h.below ha0)
  have BB1 := Aside0.mk (Nat.le_trans HL0.out ha0.size)
  have g0 := (blk_cell b0.out 0).trans rfl
  have g1 := (blk_cell b0.out 1).trans rfl
  have g2 := (blk_cell b0.out 2).trans rfl
  have S1 := Aside0.mk h1
  have S2 := Aside0.mk h2
  have S3 := Aside0.mk h3
  have S4 := Aside0.mk h4
  have S5 := Aside0.mk h5
  clear h1 h2 h3 h4 h5
  clear h hD hc hr hF hm ha0
  go_enter Try.func28, Try.ntmps28
  go_wp2_with (first
    | (go_at_call 17; (with_reducible refine (stookref21_Scan.calls k Af cf F r1 ps r3 r4 r5 _ (Kd.R_reads' H1.out.own).2.2 (Kd.R_reads' H1.out.own).2.1 S1.out).mono ?_); rintro e w2 ⟨v, rfl, ho, hb⟩; obtain ⟨Ap, cp, ep⟩ := Kd.R_slice ho; subst ep; have hal := below_alloc (Below.refl w2.heap.size w2) (.cells #[.int .i64 r1, .slice Ap ps.length cp, .bool r3, .int .i64 r4] 33); have H3 := Aside0.mk ((H1.out.below hb).below hal); have b3 := Aside0.mk (blk_below (blk_below b0.out hb) hal); have g1c := (blk_cell b3.out 1).trans rfl; have g2c := (blk_cell b3.out 2).trans rfl; have bs := heap_alloc_new w2 (.cells #[.int .i64 r1, .slice Ap ps.length cp, .bool r3, .int .i64 r4] 33); have s1c := (blk_cell bs 1).trans rfl; have O3 := Aside0.mk (Kd.R_below ho hal); clear ho hb hal bs)
    | (go_at_call 24; (with_reducible refine (sread_told H3.out.disk H3.out.bel.size HFl.out S2.out S4.out).mono ?_); rintro e w4 ⟨v, rfl, hs, hb⟩; obtain ⟨A4, c4, e4, hl4, hr4⟩ := hs.reads; subst e4; have V4 := Aside0.mk hs; have B4 := Aside0.mk hb; have C4 := Aside0.mk hr4; have L4 := Aside0.mk hl4; clear hs hb hr4 hl4)
    | (go_at_call 48; (with_reducible refine (stookref21_Read.calls k Af cf F at_ c q w4 (Kd.R_reads' (H3.out.below B4.out).own).2.2 (Kd.R_reads' (H3.out.below B4.out).own).2.1 S3.out).mono ?_); rintro e w5 ⟨v, rfl, ho, hb⟩; obtain ⟨A5, c5, e5, hl5, hr5⟩ := Kd.Q_reads ho; subst e5; have C5 := Aside0.mk hr5; have L5 := Aside0.mk hl5; have V5 := Aside0.mk (V4.out.below hb); have C45 := Aside0.mk (Kd.C_below C4.out hb); have B5 := Aside0.mk (below_step B4.out hb); clear ho hb hr5 hl5)
    | (go_at_call 13; (with_reducible refine (stookref00_Same.calls k A4 c4 c A5 c5 c true w5 C45.out L4.out C5.out L5.out S5.out).mono ?_); rintro e w6 ⟨rfl, hd⟩; have hb := hd.below; have V6 := Aside0.mk (V5.out.below hb); have B6 := Aside0.mk (below_step B5.out hb); clear hb hd)
    | (go_at_call 49; (with_reducible refine (spoil_sp V6.out).mono ?_); rintro e w7 ⟨rfl, hb⟩; have H7 := Aside0.mk (H3.out.below (B6.out.trans hb)); clear hb))
  go_ret2
  exact ⟨rfl, H7.out⟩
theorem step_read_bad {w0 w : World} {g : Nat} {room : Int} {F : List Int} {m : Nat} {Af : Option Addr} {cf : Nat} {free : Int} {Ad : Option Addr} {D : List Int} {cd k : Nat} (h : At w0 w g room F m (.slice Af F.length cf)) (hD : Kd.C (Kd.int .u8) w0 Ad D.length D) (hc : D.length ≤ cd) (hr : room ≤ 1048576) (hF : (F.length : Int) ≤ room) (hm : m ≤ 10000) {r1 : Int} {ps : List Int} {r3 : Bool} {r4 r5 : Int} {at_ : Int} {R : List Int × Int × Int} {c : List Int} {q : Int} (h1 : stookref21_Scan.f k F = some (r1, ps, r3, r4, r5)) (h2 : frame_Get.f k F at_ = some R) (h3 : stookref21_Read.f k F at_ = some (c, q)) (h4 : rgot at_ R = (c, q)) (h5 : stookref00_Same.f k c c = some true) (h6 : r5 ≠ 0) :
    Calls Try.prog 28 #[.pointer (some ⟨g, 0, none⟩), .slice Af F.length cf, .agg #[.int .i64 2, .int .i64 at_, .bool false, .slice Ad D.length cd], .int .i64 free] w fun e w' => e = .returned (.tuple #[.slice Af F.length cf, .bool true]) ∧ At w0 w' g room F m (.slice Af F.length cf) := by
  have q1 : (r5 == 0) = false := beq_eq_false_iff_ne.mpr h6
  clear h6
  have H0 := Aside0.mk h
  have HD := Aside0.mk hD
  have HC := Aside0.mk hc
  have HR := Aside0.mk hr
  have HF := Aside0.mk hF
  have HM := Aside0.mk hm
  have HFl := Aside0.mk (show F.length ≤ 1048576 by omega)
  have b0 := Aside0.mk (heap_alloc_new w (.cells #[.int .i64 2, .int .i64 at_, .bool false, .slice Ad D.length cd] 59))
  have HL0 := Aside0.mk h.bel.size
  have ha0 := below_alloc (Below.refl w.heap.size w) (.cells #[.int .i64 2, .int .i64 at_, .bool false, .slice Ad D.length cd] 59)
  have H1 := Aside0.mk (h.below ha0)
  have BB1 := Aside0.mk (Nat.le_trans HL0.out ha0.size)
  have g0 := (blk_cell b0.out 0).trans rfl
  have g1 := (blk_cell b0.out 1).trans rfl
  have g2 := (blk_cell b0.out 2).trans rfl
  have S1 := Aside0.mk h1
  have S2 := Aside0.mk h2
  have S3 := Aside0.mk h3
  have S4 := Aside0.mk h4
  have S5 := Aside0.mk h5
  clear h1 h2 h3 h4 h5
  clear h hD hc hr hF hm ha0
  go_enter Try.func28, Try.ntmps28
  go_wp2_with (first
    | (go_at_call 17; (with_reducible refine (stookref21_Scan.calls k Af cf F r1 ps r3 r4 r5 _ (Kd.R_reads' H1.out.own).2.2 (Kd.R_reads' H1.out.own).2.1 S1.out).mono ?_); rintro e w2 ⟨v, rfl, ho, hb⟩; obtain ⟨Ap, cp, ep⟩ := Kd.R_slice ho; subst ep; have hal := below_alloc (Below.refl w2.heap.size w2) (.cells #[.int .i64 r1, .slice Ap ps.length cp, .bool r3, .int .i64 r4] 33); have H3 := Aside0.mk ((H1.out.below hb).below hal); have b3 := Aside0.mk (blk_below (blk_below b0.out hb) hal); have g1c := (blk_cell b3.out 1).trans rfl; have g2c := (blk_cell b3.out 2).trans rfl; have bs := heap_alloc_new w2 (.cells #[.int .i64 r1, .slice Ap ps.length cp, .bool r3, .int .i64 r4] 33); have s1c := (blk_cell bs 1).trans rfl; have O3 := Aside0.mk (Kd.R_below ho hal); clear ho hb hal bs)
    | (go_at_call 24; (with_reducible refine (sread_told H3.out.disk H3.out.bel.size HFl.out S2.out S4.out).mono ?_); rintro e w4 ⟨v, rfl, hs, hb⟩; obtain ⟨A4, c4, e4, hl4, hr4⟩ := hs.reads; subst e4; have V4 := Aside0.mk hs; have B4 := Aside0.mk hb; have C4 := Aside0.mk hr4; have L4 := Aside0.mk hl4; clear hs hb hr4 hl4)
    | (go_at_call 48; (with_reducible refine (stookref21_Read.calls k Af cf F at_ c q w4 (Kd.R_reads' (H3.out.below B4.out).own).2.2 (Kd.R_reads' (H3.out.below B4.out).own).2.1 S3.out).mono ?_); rintro e w5 ⟨v, rfl, ho, hb⟩; obtain ⟨A5, c5, e5, hl5, hr5⟩ := Kd.Q_reads ho; subst e5; have C5 := Aside0.mk hr5; have L5 := Aside0.mk hl5; have V5 := Aside0.mk (V4.out.below hb); have C45 := Aside0.mk (Kd.C_below C4.out hb); have B5 := Aside0.mk (below_step B4.out hb); clear ho hb hr5 hl5)
    | (go_at_call 13; (with_reducible refine (stookref00_Same.calls k A4 c4 c A5 c5 c true w5 C45.out L4.out C5.out L5.out S5.out).mono ?_); rintro e w6 ⟨rfl, hd⟩; have hb := hd.below; have V6 := Aside0.mk (V5.out.below hb); have B6 := Aside0.mk (below_step B5.out hb); clear hb hd)
    | (go_at_call 49; (with_reducible refine (spoil_sp V6.out).mono ?_); rintro e w7 ⟨rfl, hb⟩; have H7 := Aside0.mk (H3.out.below (B6.out.trans hb)); clear hb))
  go_ret2
  exact ⟨rfl, H7.out⟩
theorem step_read_none {w0 w : World} {g : Nat} {room : Int} {F : List Int} {m : Nat} {Af : Option Addr} {cf : Nat} {free : Int} {Ad : Option Addr} {D : List Int} {cd k : Nat} (h : At w0 w g room F m (.slice Af F.length cf)) (hD : Kd.C (Kd.int .u8) w0 Ad D.length D) (hc : D.length ≤ cd) (hr : room ≤ 1048576) (hF : (F.length : Int) ≤ room) (hm : m ≤ 10000) {r1 : Int} {ps : List Int} {r3 : Bool} {r4 r5 : Int} {at_ : Int} {R : List Int × Int × Int} {c : List Int} {q : Int} (h1 : stookref21_Scan.f k F = some (r1, ps, r3, r4, r5)) (h2 : frame_Get.f k F at_ = some R) (h3 : stookref21_Read.f k F at_ = some (c, q)) (h4 : rgot at_ R = (c, q)) (h5 : stookref00_Same.f k c c = some true) (h6 : r5 = 0) (h7 : ps = []) :
    Calls Try.prog 28 #[.pointer (some ⟨g, 0, none⟩), .slice Af F.length cf, .agg #[.int .i64 2, .int .i64 at_, .bool false, .slice Ad D.length cd], .int .i64 free] w fun e w' => e = .returned (.tuple #[.slice Af F.length cf, .bool true]) ∧ At w0 w' g room F m (.slice Af F.length cf) := by
  have q1 : (r5 == 0) = true := beq_iff_eq.mpr h6
  have q2 : decide (0 < ps.length) = false := decide_eq_false (by rw [h7]; simp)
  have q3 : decide ((0 : Int) < (ps.length : Int)) = false := decide_eq_false (by rw [h7]; simp)
  clear h6 h7
  have H0 := Aside0.mk h
  have HD := Aside0.mk hD
  have HC := Aside0.mk hc
  have HR := Aside0.mk hr
  have HF := Aside0.mk hF
  have HM := Aside0.mk hm
  have HFl := Aside0.mk (show F.length ≤ 1048576 by omega)
  have b0 := Aside0.mk (heap_alloc_new w (.cells #[.int .i64 2, .int .i64 at_, .bool false, .slice Ad D.length cd] 59))
  have HL0 := Aside0.mk h.bel.size
  have ha0 := below_alloc (Below.refl w.heap.size w) (.cells #[.int .i64 2, .int .i64 at_, .bool false, .slice Ad D.length cd] 59)
  have H1 := Aside0.mk (h.below ha0)
  have BB1 := Aside0.mk (Nat.le_trans HL0.out ha0.size)
  have g0 := (blk_cell b0.out 0).trans rfl
  have g1 := (blk_cell b0.out 1).trans rfl
  have g2 := (blk_cell b0.out 2).trans rfl
  have S1 := Aside0.mk h1
  have S2 := Aside0.mk h2
  have S3 := Aside0.mk h3
  have S4 := Aside0.mk h4
  have S5 := Aside0.mk h5
  clear h1 h2 h3 h4 h5
  clear h hD hc hr hF hm ha0
  go_enter Try.func28, Try.ntmps28
  go_wp2_with (first
    | (go_at_call 17; (with_reducible refine (stookref21_Scan.calls k Af cf F r1 ps r3 r4 r5 _ (Kd.R_reads' H1.out.own).2.2 (Kd.R_reads' H1.out.own).2.1 S1.out).mono ?_); rintro e w2 ⟨v, rfl, ho, hb⟩; obtain ⟨Ap, cp, ep⟩ := Kd.R_slice ho; subst ep; have hal := below_alloc (Below.refl w2.heap.size w2) (.cells #[.int .i64 r1, .slice Ap ps.length cp, .bool r3, .int .i64 r4] 33); have H3 := Aside0.mk ((H1.out.below hb).below hal); have b3 := Aside0.mk (blk_below (blk_below b0.out hb) hal); have g1c := (blk_cell b3.out 1).trans rfl; have g2c := (blk_cell b3.out 2).trans rfl; have bs := heap_alloc_new w2 (.cells #[.int .i64 r1, .slice Ap ps.length cp, .bool r3, .int .i64 r4] 33); have s1c := (blk_cell bs 1).trans rfl; have O3 := Aside0.mk (Kd.R_below ho hal); clear ho hb hal bs)
    | (go_at_call 24; (with_reducible refine (sread_told H3.out.disk H3.out.bel.size HFl.out S2.out S4.out).mono ?_); rintro e w4 ⟨v, rfl, hs, hb⟩; obtain ⟨A4, c4, e4, hl4, hr4⟩ := hs.reads; subst e4; have V4 := Aside0.mk hs; have B4 := Aside0.mk hb; have C4 := Aside0.mk hr4; have L4 := Aside0.mk hl4; clear hs hb hr4 hl4)
    | (go_at_call 48; (with_reducible refine (stookref21_Read.calls k Af cf F at_ c q w4 (Kd.R_reads' (H3.out.below B4.out).own).2.2 (Kd.R_reads' (H3.out.below B4.out).own).2.1 S3.out).mono ?_); rintro e w5 ⟨v, rfl, ho, hb⟩; obtain ⟨A5, c5, e5, hl5, hr5⟩ := Kd.Q_reads ho; subst e5; have C5 := Aside0.mk hr5; have L5 := Aside0.mk hl5; have V5 := Aside0.mk (V4.out.below hb); have C45 := Aside0.mk (Kd.C_below C4.out hb); have B5 := Aside0.mk (below_step B4.out hb); clear ho hb hr5 hl5)
    | (go_at_call 13; (with_reducible refine (stookref00_Same.calls k A4 c4 c A5 c5 c true w5 C45.out L4.out C5.out L5.out S5.out).mono ?_); rintro e w6 ⟨rfl, hd⟩; have hb := hd.below; have V6 := Aside0.mk (V5.out.below hb); have B6 := Aside0.mk (below_step B5.out hb); clear hb hd)
    | (go_at_call 49; (with_reducible refine (spoil_sp V6.out).mono ?_); rintro e w7 ⟨rfl, hb⟩; have H7 := Aside0.mk (H3.out.below (B6.out.trans hb)); clear hb))
  go_ret2
  exact ⟨rfl, H7.out⟩
theorem step_read_place {w0 w : World} {g : Nat} {room : Int} {F : List Int} {m : Nat} {Af : Option Addr} {cf : Nat} {n free : Int} {Ad : Option Addr} {D : List Int} {cd k : Nat} (h : At w0 w g room F m (.slice Af F.length cf)) (hD : Kd.C (Kd.int .u8) w0 Ad D.length D) (hc : D.length ≤ cd) (hr : room ≤ 1048576) (hF : (F.length : Int) ≤ room) (hm : m ≤ 10000) {r1 : Int} {ps : List Int} {r3 : Bool} {r4 r5 : Int} {at_ : Int} {R : List Int × Int × Int} {c : List Int} {q : Int} (h1 : stookref21_Scan.f k F = some (r1, ps, r3, r4, r5)) (h2 : frame_Get.f k F at_ = some R) (h3 : stookref21_Read.f k F at_ = some (c, q)) (h4 : rgot at_ R = (c, q)) (h5 : stookref00_Same.f k c c = some true) (h6 : r5 = 0) (h7 : 0 < ps.length) {j : Nat} (hj : j < ps.length) (hat : rdOf (0 : Int) ps j = at_) (hpl : ps.length ≤ 1048576) (hix : (IntKind.u64.wrap n).tmod (ps.length : Int) = (j : Int)) :
    Calls Try.prog 28 #[.pointer (some ⟨g, 0, none⟩), .slice Af F.length cf, .agg #[.int .i64 2, .int .i64 n, .bool false, .slice Ad D.length cd], .int .i64 free] w fun e w' => e = .returned (.tuple #[.slice Af F.length cf, .bool true]) ∧ At w0 w' g room F m (.slice Af F.length cf) := by
  have HIX := Aside0.mk hix
  clear hix
  have q1 : (r5 == 0) = true := beq_iff_eq.mpr h6
  have q2 : decide (0 < ps.length) = true := decide_eq_true h7
  have PL := Aside0.mk h7
  have JL := Aside0.mk hj
  have JA := Aside0.mk hat
  have e5 : (0 : Int) ≤ (j : Int) := Int.natCast_nonneg j
  have e6 : (j : Int) < (ps.length : Int) := Int.ofNat_lt.2 hj
  have e1 : IntKind.u64.wrap (ps.length : Int) = (ps.length : Int) := by rw [IntKind.wrap_u64]; omega
  have E1 := Aside0.mk e1
  clear e1
  have e2 : ((ps.length : Int) = 0) = False := eq_false (by omega)
  have e3 : (ps.length = 0) = False := eq_false (by omega)
  have e4 : wrap64 (j : Int) = (j : Int) := wrap64_small j (by omega)
  clear h6 h7 hj hat hpl
  have H0 := Aside0.mk h
  have HD := Aside0.mk hD
  have HC := Aside0.mk hc
  have HR := Aside0.mk hr
  have HF := Aside0.mk hF
  have HM := Aside0.mk hm
  have HFl := Aside0.mk (show F.length ≤ 1048576 by omega)
  have b0 := Aside0.mk (heap_alloc_new w (.cells #[.int .i64 2, .int .i64 n, .bool false, .slice Ad D.length cd] 59))
  have HL0 := Aside0.mk h.bel.size
  have ha0 := below_alloc (Below.refl w.heap.size w) (.cells #[.int .i64 2, .int .i64 n, .bool false, .slice Ad D.length cd] 59)
  have H1 := Aside0.mk (h.below ha0)
  have BB1 := Aside0.mk (Nat.le_trans HL0.out ha0.size)
  have g0 := (blk_cell b0.out 0).trans rfl
  have g1 := (blk_cell b0.out 1).trans rfl
  have g2 := (blk_cell b0.out 2).trans rfl
  have S1 := Aside0.mk h1
  have S2 := Aside0.mk h2
  have S3 := Aside0.mk h3
  have S4 := Aside0.mk h4
  have S5 := Aside0.mk h5
  clear h1 h2 h3 h4 h5
  clear h hD hc hr hF hm ha0
  go_enter Try.func28, Try.ntmps28
  go_wp2_with (go_at_call 17; (with_reducible refine (stookref21_Scan.calls k Af cf F r1 ps r3 r4 r5 _ (Kd.R_reads' H1.out.own).2.2 (Kd.R_reads' H1.out.own).2.1 S1.out).mono ?_); rintro e w2 ⟨v, rfl, ho, hb⟩; obtain ⟨gp, cp, ep, _, _, _⟩ := Kd.R_form ho PL.out; subst ep; have hal := below_alloc (Below.refl w2.heap.size w2) (.cells #[.int .i64 r1, .slice (some ⟨gp, 0, none⟩) ps.length cp, .bool r3, .int .i64 r4] 33); have H3 := Aside0.mk ((H1.out.below hb).below hal); have b3 := Aside0.mk (blk_below (blk_below b0.out hb) hal); have g1c := (blk_cell b3.out 1).trans rfl; have g2c := (blk_cell b3.out 2).trans rfl; have bs := heap_alloc_new w2 (.cells #[.int .i64 r1, .slice (some ⟨gp, 0, none⟩) ps.length cp, .bool r3, .int .i64 r4] 33); have s1c := (blk_cell bs 1).trans rfl; have O3 := Aside0.mk (Kd.R_below ho hal); have BS := Aside0.mk bs; clear ho hb hal bs)
  have PJ := Aside0.mk ((Kd.R_cell (0 : Int) O3.out (j : Int) e5 e6).1.trans (by rw [JA.out]))
  generalize w2.alloc (.cells #[.int .i64 r1, .slice (some ⟨gp, 0, none⟩) ps.length cp, .bool r3, .int .i64 r4] 33) = wx at H3 b3 g1c g2c BS s1c O3 PJ ⊢
  generalize w2.heap.size = bq at BS s1c ⊢
  clear g1c g2c
  have hix := HIX.out
  have e1 := E1.out
  clear E1
  refine start_ (n := 13) (S := fun w' => w'.cell? ⟨bq, 1, none⟩ = some (.slice (some ⟨gp, 0, none⟩) ps.length cp) ∧ w'.cell? ⟨gp, j, none⟩ = some (.int .i64 at_)) (ds := []) #[false, false, false, false, false, false, false, false, false, false, false, false, false] (by kernel_rfl) rfl rfl ⟨(blk_cell BS.out 1).trans rfl, PJ.out⟩ (fun hHeld => ?_)
  have H4 := Aside0.mk (H3.out.below (below_drew1 (Below.refl _ _)))
  generalize wx.drew = w4 at H4 hHeld ⊢
  refine pure_ (i := 0) (N := some 122) (v := ?_) (a' := ?_) #[true, false, false, false, false, false, false, false, false, false, false, false, false] rfl rfl (by kernel_rfl) (fun _ _ _ h => h) (Or.inl ⟨by rfl, ?_⟩) ?_ ?_
  rotate_left
  · intro w'
    go_simp
    with_reducible rfl
  rotate_left
  · simp only [Act.put, List.setIfInBounds_toArray, List.set_cons_zero, List.set_cons_succ, i64_w, i32_w]
    rfl
  refine pure_ (i := 2) (N := some 124) (v := ?_) (a' := ?_) #[true, false, true, false, false, false, false, false, false, false, false, false, false] rfl rfl (by kernel_rfl) (fun _ _ _ h => h) (Or.inl ⟨by rfl, ?_⟩) ?_ ?_
  rotate_left
  · intro w'
    go_simp
    with_reducible rfl
  rotate_left
  · simp only [Act.put, List.setIfInBounds_toArray, List.set_cons_zero, List.set_cons_succ, i64_w, i32_w]
    rfl
  refine pure_ (i := 3) (N := some 125) (v := ?_) (a' := ?_) #[true, false, true, true, false, false, false, false, false, false, false, false, false] rfl rfl (by kernel_rfl) (fun _ _ _ h => h) (Or.inl ⟨by rfl, ?_⟩) ?_ ?_
  rotate_left
  · intro w'
    go_simp
    with_reducible rfl
  rotate_left
  · simp only [Act.put, List.setIfInBounds_toArray, List.set_cons_zero, List.set_cons_succ, i64_w, i32_w]
    rfl
  refine pure_ (i := 4) (N := some 126) (v := ?_) (a' := ?_) #[true, false, true, true, true, false, false, false, false, false, false, false, false] rfl rfl (by kernel_rfl) (fun _ _ _ h => h) (Or.inl ⟨by rfl, ?_⟩) ?_ ?_
  rotate_left
  · intro w'
    go_simp
    with_reducible rfl
  rotate_left
  · simp only [Act.put, List.setIfInBounds_toArray, List.set_cons_zero, List.set_cons_succ, i64_w, i32_w]
    rfl
  refine take_ (i := 1) (N := some 123) (v := ?_) (a' := ?_) #[true, true, true, true, true, false, false, false, false, false, false, false, false] rfl rfl (by kernel_rfl) (fun _ _ _ h => h) (Or.inl ⟨by rfl, ?_⟩) hHeld ?_ ?_
  rotate_left
  · rintro w' ⟨s0, s1⟩
    go_simp
    with_reducible rfl
  rotate_left
  · simp only [Act.put, List.setIfInBounds_toArray, List.set_cons_zero, List.set_cons_succ, i64_w, i32_w]
    rfl
  refine take_ (i := 5) (N := some 127) (v := ?_) (a' := ?_) #[true, true, true, true, true, true, false, false, false, false, false, false, false] rfl rfl (by kernel_rfl) (fun _ _ _ h => h) (Or.inl ⟨by rfl, ?_⟩) hHeld ?_ ?_
  rotate_left
  · rintro w' ⟨s0, s1⟩
    go_simp
    with_reducible rfl
  rotate_left
  · simp only [Act.put, List.setIfInBounds_toArray, List.set_cons_zero, List.set_cons_succ, i64_w, i32_w]
    rfl
  refine pure_ (i := 6) (N := some 128) (v := ?_) (a' := ?_) #[true, true, true, true, true, true, true, false, false, false, false, false, false] rfl rfl (by kernel_rfl) (fun _ _ _ h => h) (Or.inl ⟨by rfl, ?_⟩) ?_ ?_
  rotate_left
  · intro w'
    go_simp
    with_reducible rfl
  rotate_left
  · simp only [Act.put, List.setIfInBounds_toArray, List.set_cons_zero, List.set_cons_succ, i64_w, i32_w]
    rfl
  refine pure_ (i := 7) (N := some 129) (v := ?_) (a' := ?_) #[true, true, true, true, true, true, true, true, false, false, false, false, false] rfl rfl (by kernel_rfl) (fun _ _ _ h => h) (Or.inl ⟨by rfl, ?_⟩) ?_ ?_
  rotate_left
  · intro w'
    go_simp
    with_reducible rfl
  rotate_left
  · simp only [Act.put, List.setIfInBounds_toArray, List.set_cons_zero, List.set_cons_succ, i64_w, i32_w]
    rfl
  refine pure_ (i := 8) (N := some 130) (v := ?_) (a' := ?_) #[true, true, true, true, true, true, true, true, true, false, false, false, false] rfl rfl (by kernel_rfl) (fun _ _ _ h => h) (Or.inl ⟨by rfl, ?_⟩) ?_ ?_
  rotate_left
  · intro w'
    go_simp
    with_reducible rfl
  rotate_left
  · simp only [Act.put, List.setIfInBounds_toArray, List.set_cons_zero, List.set_cons_succ, i64_w, i32_w]
    rfl
  refine pure_ (i := 9) (N := some 131) (v := ?_) (a' := ?_) #[true, true, true, true, true, true, true, true, true, true, false, false, false] rfl rfl (by kernel_rfl) (fun _ _ _ h => h) (Or.inl ⟨by rfl, ?_⟩) ?_ ?_
  rotate_left
  · intro w'
    go_simp
    with_reducible rfl
  rotate_left
  · simp only [Act.put, List.setIfInBounds_toArray, List.set_cons_zero, List.set_cons_succ, i64_w, i32_w]
    rfl
  refine pure_ (i := 10) (N := some 132) (v := ?_) (a' := ?_) #[true, true, true, true, true, true, true, true, true, true, true, false, false] rfl rfl (by kernel_rfl) (fun _ _ _ h => h) (Or.inl ⟨by rfl, ?_⟩) ?_ ?_
  rotate_left
  · intro w'
    go_simp
    with_reducible rfl
  rotate_left
  · simp only [Act.put, List.setIfInBounds_toArray, List.set_cons_zero, List.set_cons_succ, i64_w, i32_w]
    rfl
  refine take_ (i := 11) (N := some 133) (v := ?_) (a' := ?_) #[true, true, true, true, true, true, true, true, true, true, true, true, false] rfl rfl (by kernel_rfl) (fun _ _ _ h => h) (Or.inl ⟨by rfl, ?_⟩) hHeld ?_ ?_
  rotate_left
  · rintro w' ⟨s0, s1⟩
    go_simp
    with_reducible rfl
  rotate_left
  · simp only [Act.put, List.setIfInBounds_toArray, List.set_cons_zero, List.set_cons_succ, i64_w, i32_w]
    rfl
  refine pure_ (i := 12) (N := some 17) (v := ?_) (a' := ?_) #[true, true, true, true, true, true, true, true, true, true, true, true, true] rfl rfl (by kernel_rfl) (fun _ _ _ h => h) (Or.inl ⟨by rfl, ?_⟩) ?_ ?_
  rotate_left
  · intro w'
    go_simp
    with_reducible rfl
  rotate_left
  · simp only [Act.put, List.setIfInBounds_toArray, List.set_cons_zero, List.set_cons_succ, i64_w, i32_w]
    rfl
  refine done_ (by kernel_rfl) ?_
  go_wp2_with (first
    | (go_at_call 24; (with_reducible refine (sread_told H4.out.disk H4.out.bel.size HFl.out S2.out S4.out).mono ?_); rintro e w4 ⟨v, rfl, hs, hb⟩; obtain ⟨A4, c4, e4, hl4, hr4⟩ := hs.reads; subst e4; have V4 := Aside0.mk hs; have B4 := Aside0.mk hb; have C4 := Aside0.mk hr4; have L4 := Aside0.mk hl4; clear hs hb hr4 hl4)
    | (go_at_call 48; (with_reducible refine (stookref21_Read.calls k Af cf F at_ c q w4 (Kd.R_reads' (H4.out.below B4.out).own).2.2 (Kd.R_reads' (H4.out.below B4.out).own).2.1 S3.out).mono ?_); rintro e w5 ⟨v, rfl, ho, hb⟩; obtain ⟨A5, c5, e5, hl5, hr5⟩ := Kd.Q_reads ho; subst e5; have C5 := Aside0.mk hr5; have L5 := Aside0.mk hl5; have V5 := Aside0.mk (V4.out.below hb); have C45 := Aside0.mk (Kd.C_below C4.out hb); have B5 := Aside0.mk (below_step B4.out hb); clear ho hb hr5 hl5)
    | (go_at_call 13; (with_reducible refine (stookref00_Same.calls k A4 c4 c A5 c5 c true w5 C45.out L4.out C5.out L5.out S5.out).mono ?_); rintro e w6 ⟨rfl, hd⟩; have hb := hd.below; have V6 := Aside0.mk (V5.out.below hb); have B6 := Aside0.mk (below_step B5.out hb); clear hb hd)
    | (go_at_call 49; (with_reducible refine (spoil_sp V6.out).mono ?_); rintro e w7 ⟨rfl, hb⟩; have H7 := Aside0.mk (H4.out.below (B6.out.trans hb)); clear hb))
  go_ret2
  exact ⟨rfl, H7.out⟩
end Go.Proofs.Ytjefgdggjchhbaa.PAll
