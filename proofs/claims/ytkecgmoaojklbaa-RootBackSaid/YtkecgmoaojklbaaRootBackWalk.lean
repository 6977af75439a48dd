/- The walk of RootBack, by hand. -/
import Derived.Test.YtkecgmoaojklbaaRootBk
import Derived.Test.YtkecgmoaojklbaaPRootBack
import Derived.Deep.RegionHeld3
import Derived.BigRegion
import Derived.RegionTactic
set_option linter.unusedVariables false
set_option linter.unusedSimpArgs false
namespace Go.Proofs.Ytkecgmoaojklbaa.PAll
open Go.RowKit Go.Proofs.YtkecgmoaojklbaaVW.PrintWords Go.Proofs.YtkecgmoaojklbaaVW.PrintLast Go.Proofs.YtkecgmoaojklbaaVW.PrintMore
theorem ner_false (W : World) (x0 x1 x2 x3 x4 x5 x6 : Int) : (binOp .neq 34 (.agg #[.int .u64 x0, .int .i64 x1, .int .i64 x2, .int .u64 x3, .int .u64 x4, .int .i64 x5, .int .i64 x6]) (.agg #[.int .u64 x0, .int .i64 x1, .int .i64 x2, .int .u64 x3, .int .u64 x4, .int .i64 x5, .int .i64 x6])).run Try.prog W = .ok (.bool false) W := by
  rw [run_neq_struct, eqA34 9998]
  simp
theorem flat_two (w : World) (a b : Obj) : ((w.alloc a).alloc b).heap.size = w.heap.size + 1 + 1 := by simp
set_option maxHeartbeats 8000000 in
set_option maxRecDepth 100000 in
theorem rootback_a (k : Nat) (q0 q1 q2 q3 q4 q5 q6 s0 s1 s2 s3 s4 s5 s6 at_ by_ : Int) (p : List Int) (pe : Int) (w : World) (hP : root_Put.f k q0 q1 q2 q3 q4 q5 q6 = some (p, pe)) (hpe : pe ≠ 0) (hLv : stooklaw16_lives.f k = some true) :
    Calls Try.prog 6 #[.agg #[.int .u64 q0, .int .i64 q1, .int .i64 q2, .int .u64 q3, .int .u64 q4, .int .i64 q5, .int .i64 q6], .agg #[.int .u64 s0, .int .i64 s1, .int .i64 s2, .int .u64 s3, .int .u64 s4, .int .i64 s5, .int .i64 s6], .int .i64 at_, .int .u8 by_] w fun e w' => e = .returned (.bool true) ∧ Below w.heap.size w w' := by
  have HP := Aside0.mk hP
  have HLV := Aside0.mk hLv
  have hpb : (pe != 0) = true := bne_iff_ne.mpr hpe
  clear hP hLv hpe
  go_enter Try.func6, Try.ntmps6
  go_wp2_with (first
    | (go_at_call 11; (with_reducible refine (root_Put.calls k q0 q1 q2 q3 q4 q5 q6 p pe _ HP.out).mono ?_); rintro e w1 ⟨va, rfl, _, hb⟩; have H01 := Aside0.mk (below_step (below_alloc (below_alloc (Below.refl w.heap.size w) _) _) hb); clear hb)
    | ((try (refine gate_guard (by rfl) ?_; dsimp only)); go_at_call 18; refine (stooklaw16_lives.calls k true _ HLV.out).mono ?_; rintro e w99 ⟨rfl, hb99⟩))
  go_ret
  exact ⟨rfl, below_step H01.out hb99⟩
set_option maxHeartbeats 8000000 in
set_option maxRecDepth 100000 in
theorem rootback_b (k : Nat) (q0 q1 q2 q3 q4 q5 q6 s0 s1 s2 s3 s4 s5 s6 at_ by_ pr : Int) (p q : List Int) (qe : Int) (w : World) (hP : root_Put.f k q0 q1 q2 q3 q4 q5 q6 = some (p, 0)) (hlp : p.length = 512) (hpr : root_Place.f q0 q1 q2 q3 q4 q5 q6 = some pr) (hG : root_Get.f k pr p = some (q0, q1, q2, q3, q4, q5, q6, 0)) (h1 : 1 ≤ q0) (h2 : q0 ≤ 4611686018427387904) (hLv : stooklaw16_lives.f k = some true) (hQ : root_Put.f k (q0 + 1) s1 s2 s3 s4 s5 s6 = some (q, qe)) (hqe : qe ≠ 0) :
    Calls Try.prog 6 #[.agg #[.int .u64 q0, .int .i64 q1, .int .i64 q2, .int .u64 q3, .int .u64 q4, .int .i64 q5, .int .i64 q6], .agg #[.int .u64 s0, .int .i64 s1, .int .i64 s2, .int .u64 s3, .int .u64 s4, .int .i64 s5, .int .i64 s6], .int .i64 at_, .int .u8 by_] w fun e w' => e = .returned (.bool true) ∧ Below w.heap.size w w' := by
  have HP := Aside0.mk hP
  have HPR := Aside0.mk hpr
  have HLP := Aside0.mk hlp
  have HG := Aside0.mk hG
  have HLV := Aside0.mk hLv
  have hne := fun W => ner_false W q0 q1 q2 q3 q4 q5 q6
  have h3 : 0 ≤ q0 + 1 := by omega
  have h4 : q0 + 1 < 18446744073709551616 := by omega
  clear hP hlp hG hLv hpr
  have HQ := Aside0.mk hQ
  have hqb : (qe != 0) = true := bne_iff_ne.mpr hqe
  clear hQ hqe
  go_enter Try.func6, Try.ntmps6
  go_wp2_with (first
    | (go_at_call 11; (with_reducible refine (root_Put.calls k q0 q1 q2 q3 q4 q5 q6 p 0 _ HP.out).mono ?_); rintro e w1 ⟨va, rfl, hoa, hb⟩; obtain ⟨gp, cp, ea, _, _, _⟩ := Kd.R_form hoa (by rw [HLP.out]; decide); subst ea; have hr0 : Rb ((w.alloc (.cells #[.int .u64 q0, .int .i64 q1, .int .i64 q2, .int .u64 q3, .int .u64 q4, .int .i64 q5, .int .i64 q6] 34)).alloc (.cells #[.int .u64 s0, .int .i64 s1, .int .i64 s2, .int .u64 s3, .int .u64 s4, .int .i64 s5, .int .i64 s6] 34)) w.heap.size q0 q1 q2 q3 q4 q5 q6 := blk_alloc (rootb_new w (.int .u64 q0) (.int .i64 q1) (.int .i64 q2) (.int .u64 q3) (.int .u64 q4) (.int .i64 q5) (.int .i64 q6)) _; have hs0 : Rb ((w.alloc (.cells #[.int .u64 q0, .int .i64 q1, .int .i64 q2, .int .u64 q3, .int .u64 q4, .int .i64 q5, .int .i64 q6] 34)).alloc (.cells #[.int .u64 s0, .int .i64 s1, .int .i64 s2, .int .u64 s3, .int .u64 s4, .int .i64 s5, .int .i64 s6] 34)) (w.heap.size + 1) s0 s1 s2 s3 s4 s5 s6 := (by have h := rootb_new (w.alloc (.cells #[.int .u64 q0, .int .i64 q1, .int .i64 q2, .int .u64 q3, .int .u64 q4, .int .i64 q5, .int .i64 q6] 34)) (.int .u64 s0) (.int .i64 s1) (.int .i64 s2) (.int .u64 s3) (.int .u64 s4) (.int .i64 s5) (.int .i64 s6); rwa [show (w.alloc (.cells #[.int .u64 q0, .int .i64 q1, .int .i64 q2, .int .u64 q3, .int .u64 q4, .int .i64 q5, .int .i64 q6] 34)).heap.size = w.heap.size + 1 from Array.size_push ..] at h); have H01 := Aside0.mk (below_step (below_alloc (below_alloc (Below.refl w.heap.size w) _) _) hb); have LP := Aside0.mk (show w.heap.size ≤ gp from by have h := Kd.R_base hoa gp rfl; rw [flat_two] at h; omega); have P1 := Aside0.mk (Rw.of (w0 := w) hoa (by rw [flat_two]; omega)); have R1 := Aside0.mk (Rootb.below hr0 hb); have S1 := Aside0.mk (Rootb.below hs0 hb); clear hoa hb hr0 hs0; have a0 := R1.out.c0; have a1 := R1.out.c1; have a2 := R1.out.c2; have a3 := R1.out.c3; have a4 := R1.out.c4; have a5 := R1.out.c5; have a6 := R1.out.c6)
    | (go_at_call 13; (with_reducible refine (root_Place.calls q0 q1 q2 q3 q4 q5 q6 pr w1 HPR.out).mono ?_); rintro e w2 ⟨rfl, hb⟩; have H02 := Aside0.mk (below_step H01.out hb); have P2 := Aside0.mk (Kd.R_below P1.out hb); have R2 := Aside0.mk (Rootb.below R1.out hb); have S2 := Aside0.mk (Rootb.below S1.out hb); clear hb)
    | (go_at_call 15; (with_reducible refine (root_Get.calls k pr (some ⟨gp, 0, none⟩) cp p q0 q1 q2 q3 q4 q5 q6 0 w2 (Kd.R_reads' P2.out).2.2 (Kd.R_reads' P2.out).2.1 HG.out).mono ?_); rintro e w3 ⟨rfl, hb⟩; have H03 := Aside0.mk (below_step H02.out hb); have P3 := Aside0.mk (Kd.R_below P2.out hb); have R3 := Aside0.mk (Rootb.below R2.out hb); have S3 := Aside0.mk (Rootb.below S2.out hb); clear hb; have hr3 : Rb (w3.alloc (.cells #[.int .u64 q0, .int .i64 q1, .int .i64 q2, .int .u64 q3, .int .u64 q4, .int .i64 q5, .int .i64 q6] 34)) w.heap.size q0 q1 q2 q3 q4 q5 q6 := blk_alloc R3.out _; have hs3 : Rb (w3.alloc (.cells #[.int .u64 q0, .int .i64 q1, .int .i64 q2, .int .u64 q3, .int .u64 q4, .int .i64 q5, .int .i64 q6] 34)) (w.heap.size + 1) s0 s1 s2 s3 s4 s5 s6 := blk_alloc S3.out _; have b0 := hr3.c0; have b1 := hr3.c1; have b2 := hr3.c2; have b3 := hr3.c3; have b4 := hr3.c4; have b5 := hr3.c5; have b6 := hr3.c6; have c0 := hs3.c0; have c1 := hs3.c1; have c2 := hs3.c2; have c3 := hs3.c3; have c4 := hs3.c4; have c5 := hs3.c5; have c6 := hs3.c6; have bf0 := hs3.fr 0; clear hr3 hs3)
    | (go_at_call 11; (with_reducible refine (root_Put.calls k (q0 + 1) s1 s2 s3 s4 s5 s6 q qe _ HQ.out).mono ?_); rintro e w4 ⟨vb, rfl, _, hb⟩; have H04 := Aside0.mk (below_step ((below_alloc H03.out _).setCell (p := ⟨w.heap.size + 1, 0, none⟩) (Nat.le_succ _) _) hb); clear hb)
    | ((try (refine gate_guard (by rfl) ?_; dsimp only)); go_at_call 18; refine (stooklaw16_lives.calls k true _ HLV.out).mono ?_; rintro e w99 ⟨rfl, hb99⟩))
  go_ret
  exact ⟨rfl, below_step H04.out hb99⟩
set_option maxHeartbeats 8000000 in
set_option maxRecDepth 100000 in
theorem rootback_ep (k : Nat) (q0 q1 q2 q3 q4 q5 q6 s0 s1 s2 s3 s4 s5 s6 at_ by_ pr ps : Int) (i : Nat) (p q : List Int) (w : World) (hP : root_Put.f k q0 q1 q2 q3 q4 q5 q6 = some (p, 0)) (hlp : p.length = 512) (hpr : root_Place.f q0 q1 q2 q3 q4 q5 q6 = some pr) (hG : root_Get.f k pr p = some (q0, q1, q2, q3, q4, q5, q6, 0)) (h1 : 1 ≤ q0) (h2 : q0 ≤ 4611686018427387904) (hLv : stooklaw16_lives.f k = some true) (hQ : root_Put.f k (q0 + 1) s1 s2 s3 s4 s5 s6 = some (q, 0)) (hlq : q.length = 512) (hps : root_Place.f (q0 + 1) s1 s2 s3 s4 s5 s6 = some ps) (hpq : ps ≠ pr) (hpar : (pr == 1) = false) (hi : i < 512) (h0 : 0 ≤ at_) (hm : at_ % 512 = (i : Int)) (hK1 : root_Pick.f k p q = some (q0 + 1, s1, s2, s3, s4, s5, s6, 0)) (hK2 : root_Pick.f k p (Pure.flip q i (bits .or .u8 by_ 1)) = some (q0, q1, q2, q3, q4, q5, q6, 0)) (hK3 : root_Pick.f k (Pure.flip p i (bits .or .u8 by_ 1)) q = some (q0 + 1, s1, s2, s3, s4, s5, s6, 0)) (hqq : Pure.flip (Pure.flip q i (bits .or .u8 by_ 1)) i (bits .or .u8 by_ 1) = q) :
    Calls Try.prog 6 #[.agg #[.int .u64 q0, .int .i64 q1, .int .i64 q2, .int .u64 q3, .int .u64 q4, .int .i64 q5, .int .i64 q6], .agg #[.int .u64 s0, .int .i64 s1, .int .i64 s2, .int .u64 s3, .int .u64 s4, .int .i64 s5, .int .i64 s6], .int .i64 at_, .int .u8 by_] w fun e w' => e = .returned (.bool true) ∧ Below w.heap.size w w' := by
  have HP := Aside0.mk hP
  have HPR := Aside0.mk hpr
  have HLP := Aside0.mk hlp
  have HG := Aside0.mk hG
  have HLV := Aside0.mk hLv
  have hne := fun W => ner_false W q0 q1 q2 q3 q4 q5 q6
  have h3 : 0 ≤ q0 + 1 := by omega
  have h4 : q0 + 1 < 18446744073709551616 := by omega
  clear hP hlp hG hLv hpr
  have HQ := Aside0.mk hQ
  have HLQ := Aside0.mk hlq
  have HPS := Aside0.mk hps
  have hpqb : (ps == pr) = false := beq_eq_false_iff_ne.mpr hpq
  clear hQ hlq hps hpq
  have HK1 := Aside0.mk hK1
  have HK2 := Aside0.mk hK2
  have HK3 := Aside0.mk hK3
  have HQQ := Aside0.mk hqq
  have hne2 := fun W => ner_false W (q0 + 1) s1 s2 s3 s4 s5 s6
  clear hK1 hK2 hK3 hqq
  go_enter Try.func6, Try.ntmps6
  go_wp2_with (first
    | (go_at_call 11; (with_reducible refine (root_Put.calls k q0 q1 q2 q3 q4 q5 q6 p 0 _ HP.out).mono ?_); rintro e w1 ⟨va, rfl, hoa, hb⟩; obtain ⟨gp, cp, ea, _, _, _⟩ := Kd.R_form hoa (by rw [HLP.out]; decide); subst ea; have hr0 : Rb ((w.alloc (.cells #[.int .u64 q0, .int .i64 q1, .int .i64 q2, .int .u64 q3, .int .u64 q4, .int .i64 q5, .int .i64 q6] 34)).alloc (.cells #[.int .u64 s0, .int .i64 s1, .int .i64 s2, .int .u64 s3, .int .u64 s4, .int .i64 s5, .int .i64 s6] 34)) w.heap.size q0 q1 q2 q3 q4 q5 q6 := blk_alloc (rootb_new w (.int .u64 q0) (.int .i64 q1) (.int .i64 q2) (.int .u64 q3) (.int .u64 q4) (.int .i64 q5) (.int .i64 q6)) _; have hs0 : Rb ((w.alloc (.cells #[.int .u64 q0, .int .i64 q1, .int .i64 q2, .int .u64 q3, .int .u64 q4, .int .i64 q5, .int .i64 q6] 34)).alloc (.cells #[.int .u64 s0, .int .i64 s1, .int .i64 s2, .int .u64 s3, .int .u64 s4, .int .i64 s5, .int .i64 s6] 34)) (w.heap.size + 1) s0 s1 s2 s3 s4 s5 s6 := (by have h := rootb_new (w.alloc (.cells #[.int .u64 q0, .int .i64 q1, .int .i64 q2, .int .u64 q3, .int .u64 q4, .int .i64 q5, .int .i64 q6] 34)) (.int .u64 s0) (.int .i64 s1) (.int .i64 s2) (.int .u64 s3) (.int .u64 s4) (.int .i64 s5) (.int .i64 s6); rwa [show (w.alloc (.cells #[.int .u64 q0, .int .i64 q1, .int .i64 q2, .int .u64 q3, .int .u64 q4, .int .i64 q5, .int .i64 q6] 34)).heap.size = w.heap.size + 1 from Array.size_push ..] at h); have H01 := Aside0.mk (below_step (below_alloc (below_alloc (Below.refl w.heap.size w) _) _) hb); have LP := Aside0.mk (show w.heap.size ≤ gp from by have h := Kd.R_base hoa gp rfl; rw [flat_two] at h; omega); have P1 := Aside0.mk (Rw.of (w0 := w) hoa (by rw [flat_two]; omega)); have R1 := Aside0.mk (Rootb.below hr0 hb); have S1 := Aside0.mk (Rootb.below hs0 hb); clear hoa hb hr0 hs0; have a0 := R1.out.c0; have a1 := R1.out.c1; have a2 := R1.out.c2; have a3 := R1.out.c3; have a4 := R1.out.c4; have a5 := R1.out.c5; have a6 := R1.out.c6)
    | (go_at_call 13; (with_reducible refine (root_Place.calls q0 q1 q2 q3 q4 q5 q6 pr w1 HPR.out).mono ?_); rintro e w2 ⟨rfl, hb⟩; have H02 := Aside0.mk (below_step H01.out hb); have P2 := Aside0.mk (Kd.R_below P1.out hb); have R2 := Aside0.mk (Rootb.below R1.out hb); have S2 := Aside0.mk (Rootb.below S1.out hb); clear hb)
    | (go_at_call 15; (with_reducible refine (root_Get.calls k pr (some ⟨gp, 0, none⟩) cp p q0 q1 q2 q3 q4 q5 q6 0 w2 (Kd.R_reads' P2.out).2.2 (Kd.R_reads' P2.out).2.1 HG.out).mono ?_); rintro e w3 ⟨rfl, hb⟩; have H03 := Aside0.mk (below_step H02.out hb); have P3 := Aside0.mk (Kd.R_below P2.out hb); have R3 := Aside0.mk (Rootb.below R2.out hb); have S3 := Aside0.mk (Rootb.below S2.out hb); clear hb; have hr3 : Rb (w3.alloc (.cells #[.int .u64 q0, .int .i64 q1, .int .i64 q2, .int .u64 q3, .int .u64 q4, .int .i64 q5, .int .i64 q6] 34)) w.heap.size q0 q1 q2 q3 q4 q5 q6 := blk_alloc R3.out _; have hs3 : Rb (w3.alloc (.cells #[.int .u64 q0, .int .i64 q1, .int .i64 q2, .int .u64 q3, .int .u64 q4, .int .i64 q5, .int .i64 q6] 34)) (w.heap.size + 1) s0 s1 s2 s3 s4 s5 s6 := blk_alloc S3.out _; have b0 := hr3.c0; have b1 := hr3.c1; have b2 := hr3.c2; have b3 := hr3.c3; have b4 := hr3.c4; have b5 := hr3.c5; have b6 := hr3.c6; have c0 := hs3.c0; have c1 := hs3.c1; have c2 := hs3.c2; have c3 := hs3.c3; have c4 := hs3.c4; have c5 := hs3.c5; have c6 := hs3.c6; have bf0 := hs3.fr 0; clear hr3 hs3)
    | (go_at_call 11; (with_reducible refine (root_Put.calls k (q0 + 1) s1 s2 s3 s4 s5 s6 q 0 _ HQ.out).mono ?_); rintro e w4 ⟨vb, rfl, hob, hb⟩; obtain ⟨gq, cq, eb, _, _, _⟩ := Kd.R_form hob (by rw [HLQ.out]; decide); subst eb; have RB4 := Aside0.mk (rb_start (n := q0 + 1) R3.out S3.out P3.out LP.out H03.out hb hob); clear hob hb))
  have zr0 := RB4.out.br.c0
  have zr1 := RB4.out.br.c1
  have zr2 := RB4.out.br.c2
  have zr3 := RB4.out.br.c3
  have zr4 := RB4.out.br.c4
  have zr5 := RB4.out.br.c5
  have zr6 := RB4.out.br.c6
  have zs0 := RB4.out.bs.c0
  have zs1 := RB4.out.bs.c1
  have zs2 := RB4.out.bs.c2
  have zs3 := RB4.out.bs.c3
  have zs4 := RB4.out.bs.c4
  have zs5 := RB4.out.bs.c5
  have zs6 := RB4.out.bs.c6
  go_region_held3 (fun w' => w'.cell? ⟨w.heap.size, 0, none⟩ = some (.int .u64 q0) ∧ w'.cell? ⟨w.heap.size, 1, none⟩ = some (.int .i64 q1) ∧ w'.cell? ⟨w.heap.size, 2, none⟩ = some (.int .i64 q2) ∧ w'.cell? ⟨w.heap.size, 3, none⟩ = some (.int .u64 q3) ∧ w'.cell? ⟨w.heap.size, 4, none⟩ = some (.int .u64 q4) ∧ w'.cell? ⟨w.heap.size, 5, none⟩ = some (.int .i64 q5) ∧ w'.cell? ⟨w.heap.size, 6, none⟩ = some (.int .i64 q6) ∧ w'.cell? ⟨w.heap.size + 1, 0, none⟩ = some (.int .u64 (q0 + 1)) ∧ w'.cell? ⟨w.heap.size + 1, 1, none⟩ = some (.int .i64 s1) ∧ w'.cell? ⟨w.heap.size + 1, 2, none⟩ = some (.int .i64 s2) ∧ w'.cell? ⟨w.heap.size + 1, 3, none⟩ = some (.int .u64 s3) ∧ w'.cell? ⟨w.heap.size + 1, 4, none⟩ = some (.int .u64 s4) ∧ w'.cell? ⟨w.heap.size + 1, 5, none⟩ = some (.int .i64 s5) ∧ w'.cell? ⟨w.heap.size + 1, 6, none⟩ = some (.int .i64 s6)) (first | go_keep | exact ⟨ya0, ya1, ya2, ya3, ya4, ya5, ya6, yb0, yb1, yb2, yb3, yb4, yb5, yb6⟩ | exact ⟨yc0, yc1, yc2, yc3, yc4, yc5, yc6, yd0, yd1, yd2, yd3, yd4, yd5, yd6⟩) (first | (go_at_call 13; (with_reducible refine (root_Place.calls (q0 + 1) s1 s2 s3 s4 s5 s6 ps _ HPS.out).mono ?_); rintro e wa ⟨rfl, hbx⟩; have RBa := Aside0.mk (RB.below (by first | exact RB4.out.drew | exact RBb.out) hbx); clear hbx; have ya0 := RBa.out.br.c0; have ya1 := RBa.out.br.c1; have ya2 := RBa.out.br.c2; have ya3 := RBa.out.br.c3; have ya4 := RBa.out.br.c4; have ya5 := RBa.out.br.c5; have ya6 := RBa.out.br.c6; have yb0 := RBa.out.bs.c0; have yb1 := RBa.out.bs.c1; have yb2 := RBa.out.bs.c2; have yb3 := RBa.out.bs.c3; have yb4 := RBa.out.bs.c4; have yb5 := RBa.out.bs.c5; have yb6 := RBa.out.bs.c6) | (go_at_call 13; (with_reducible refine (root_Place.calls q0 q1 q2 q3 q4 q5 q6 pr _ HPR.out).mono ?_); rintro e wb ⟨rfl, hbx⟩; have RBb := Aside0.mk (RB.below (by first | exact RB4.out.drew | exact RBa.out) hbx); clear hbx; have yc0 := RBb.out.br.c0; have yc1 := RBb.out.br.c1; have yc2 := RBb.out.br.c2; have yc3 := RBb.out.br.c3; have yc4 := RBb.out.br.c4; have yc5 := RBb.out.br.c5; have yc6 := RBb.out.br.c6; have yd0 := RBb.out.bs.c0; have yd1 := RBb.out.bs.c1; have yd2 := RBb.out.bs.c2; have yd3 := RBb.out.bs.c3; have yd4 := RBb.out.bs.c4; have yd5 := RBb.out.bs.c5; have yd6 := RBb.out.bs.c6))
  clear ya0 ya1 ya2 ya3 ya4 ya5 ya6 yb0 yb1 yb2 yb3 yb4 yb5 yb6 yc0 yc1 yc2 yc3 yc4 yc5 yc6 yd0 yd1 yd2 yd3 yd4 yd5 yd6 zr0 zr1 zr2 zr3 zr4 zr5 zr6 zs0 zs1 zs2 zs3 zs4 zs5 zs6
  have RB5 := RBb
  clear RBa RBb RB4
  obtain ⟨gx, hgx⟩ : ∃ gx, gx = w3.heap.size := ⟨_, rfl⟩
  rw [← hgx] at RB5 ⊢
  clear hgx
  rw [HLP.out, HLQ.out]
  have ne1 := RB5.out.nrx
  have ne2 := RB5.out.nsx
  go_wp2_with (first
    | (go_at_call 13; (with_reducible refine (root_Place.calls q0 q1 q2 q3 q4 q5 q6 pr wb HPR.out).mono ?_); rintro e w5 ⟨rfl, hb⟩; have RB6 := Aside0.mk (RB.below RB5.out hb); clear hb)
    | (go_at_call 19; have hk := root_Pick.calls k (some ⟨gp, 0, none⟩) cp p (some ⟨gq, 0, none⟩) cq q (q0 + 1) s1 s2 s3 s4 s5 s6 0 w5 (Kd.R_reads' RB6.out.rp).2.2 (Kd.R_reads' RB6.out.rp).2.1 (Kd.R_reads' RB6.out.rq).2.2 (Kd.R_reads' RB6.out.rq).2.1 HK1.out; rw [HLP.out, HLQ.out] at hk; (with_reducible refine hk.mono ?_); clear hk; rintro e w6 ⟨rfl, hb⟩; have RB7 := Aside0.mk (RB.below RB6.out hb); clear hb; have xx0 := RB7.out.bx.c0; have xx1 := RB7.out.bx.c1; have xx2 := RB7.out.bx.c2; have xx3 := RB7.out.bx.c3; have xx4 := RB7.out.bx.c4; have xx5 := RB7.out.bx.c5; have xx6 := RB7.out.bx.c6; have xf0 := RB7.out.bx.fr 0; have xf1 := RB7.out.bx.fr 1; have xf2 := RB7.out.bx.fr 2; have xf3 := RB7.out.bx.fr 3; have xf4 := RB7.out.bx.fr 4; have xf5 := RB7.out.bx.fr 5; have xf6 := RB7.out.bx.fr 6; have rr0 := RB7.out.br.c0; have rr1 := RB7.out.br.c1; have rr2 := RB7.out.br.c2; have rr3 := RB7.out.br.c3; have rr4 := RB7.out.br.c4; have rr5 := RB7.out.br.c5; have rr6 := RB7.out.br.c6; have ss0 := RB7.out.bs.c0; have ss1 := RB7.out.bs.c1; have ss2 := RB7.out.bs.c2; have ss3 := RB7.out.bs.c3; have ss4 := RB7.out.bs.c4; have ss5 := RB7.out.bs.c5; have ss6 := RB7.out.bs.c6))
  have rb8 := RB7.out.putx (q0 + 1) s1 s2 s3 s4 s5 s6
  obtain ⟨w7, hw7⟩ : ∃ w7, w7 = (((((((w6.setCell ⟨gx, 0, none⟩ (.int .u64 (q0 + 1))).setCell ⟨gx, 1, none⟩ (.int .i64 s1)).setCell ⟨gx, 2, none⟩ (.int .i64 s2)).setCell ⟨gx, 3, none⟩ (.int .u64 s3)).setCell ⟨gx, 4, none⟩ (.int .u64 s4)).setCell ⟨gx, 5, none⟩ (.int .i64 s5)).setCell ⟨gx, 6, none⟩ (.int .i64 s6)) := ⟨_, rfl⟩
  rw [← hw7] at rb8 ⊢
  clear hw7
  have RB8 := Aside0.mk rb8
  clear rb8 RB7 RB6 RB5
  have i0 : (0 : Int) ≤ (i : Int) := by omega
  have i1 : (i : Int) < 512 := by omega
  obtain ⟨cq0, fq0⟩ := RB8.out.rq.cell (i := i) (by rw [HLQ.out]; exact hi)
  obtain ⟨X, hX⟩ : ∃ X, X = rd q (i : Int) := ⟨_, rfl⟩
  rw [← hX] at cq0
  have HX := Aside0.mk hX
  clear hX
  go_region
  have rb9 := RB8.out.putq i (bits .xor .u8 (rd q (i : Int)) (bits .or .u8 by_ 1))
  rw [← HX.out] at rb9
  obtain ⟨w8, hw8⟩ : ∃ w8, w8 = w7.setCell ⟨gq, i, none⟩ (.int .u8 (bits .xor .u8 X (bits .or .u8 by_ 1))) := ⟨_, rfl⟩
  rw [← hw8] at rb9 ⊢
  clear hw8
  rw [HX.out] at rb9
  have RB9 := Aside0.mk (show RB w w8.drew gx gp gq cp cq q0 q1 q2 q3 q4 q5 q6 (q0 + 1) s1 s2 s3 s4 s5 s6 (q0 + 1) s1 s2 s3 s4 s5 s6 p (Pure.flip q i (bits .or .u8 by_ 1)) from rb9.drew)
  clear rb9 cq0 fq0 HX RB8
  go_wp2_with (first
    | (go_at_call 19; have hk := root_Pick.calls k (some ⟨gp, 0, none⟩) cp p (some ⟨gq, 0, none⟩) cq (Pure.flip q i (bits .or .u8 by_ 1)) q0 q1 q2 q3 q4 q5 q6 0 w8.drew (Kd.R_reads' RB9.out.rp).2.2 (Kd.R_reads' RB9.out.rp).2.1 (Kd.R_reads' RB9.out.rq).2.2 (Kd.R_reads' RB9.out.rq).2.1 HK2.out; rw [Pure.flip_len, HLP.out, HLQ.out] at hk; (with_reducible refine hk.mono ?_); clear hk; rintro e w9 ⟨rfl, hb⟩; have RB10 := Aside0.mk (RB.below RB9.out hb); clear hb; have xx0 := RB10.out.bx.c0; have xx1 := RB10.out.bx.c1; have xx2 := RB10.out.bx.c2; have xx3 := RB10.out.bx.c3; have xx4 := RB10.out.bx.c4; have xx5 := RB10.out.bx.c5; have xx6 := RB10.out.bx.c6; have xf0 := RB10.out.bx.fr 0; have xf1 := RB10.out.bx.fr 1; have xf2 := RB10.out.bx.fr 2; have xf3 := RB10.out.bx.fr 3; have xf4 := RB10.out.bx.fr 4; have xf5 := RB10.out.bx.fr 5; have xf6 := RB10.out.bx.fr 6; have rr0 := RB10.out.br.c0; have rr1 := RB10.out.br.c1; have rr2 := RB10.out.br.c2; have rr3 := RB10.out.br.c3; have rr4 := RB10.out.br.c4; have rr5 := RB10.out.br.c5; have rr6 := RB10.out.br.c6; have ss0 := RB10.out.bs.c0; have ss1 := RB10.out.bs.c1; have ss2 := RB10.out.bs.c2; have ss3 := RB10.out.bs.c3; have ss4 := RB10.out.bs.c4; have ss5 := RB10.out.bs.c5; have ss6 := RB10.out.bs.c6))
  have rb8 := RB10.out.putx q0 q1 q2 q3 q4 q5 q6
  obtain ⟨w10, hw7⟩ : ∃ w7, w7 = (((((((w9.setCell ⟨gx, 0, none⟩ (.int .u64 q0)).setCell ⟨gx, 1, none⟩ (.int .i64 q1)).setCell ⟨gx, 2, none⟩ (.int .i64 q2)).setCell ⟨gx, 3, none⟩ (.int .u64 q3)).setCell ⟨gx, 4, none⟩ (.int .u64 q4)).setCell ⟨gx, 5, none⟩ (.int .i64 q5)).setCell ⟨gx, 6, none⟩ (.int .i64 q6)) := ⟨_, rfl⟩
  rw [← hw7] at rb8 ⊢
  clear hw7
  have RB11 := Aside0.mk rb8
  clear rb8 RB10
  obtain ⟨cq0, fq0⟩ := RB11.out.rq.cell (i := i) (by rw [Pure.flip_len, HLQ.out]; exact hi)
  obtain ⟨X, hX⟩ : ∃ X, X = rd (Pure.flip q i (bits .or .u8 by_ 1)) (i : Int) := ⟨_, rfl⟩
  rw [← hX] at cq0
  have HX := Aside0.mk hX
  clear hX
  go_region
  have rb9 := RB11.out.putq i (bits .xor .u8 (rd (Pure.flip q i (bits .or .u8 by_ 1)) (i : Int)) (bits .or .u8 by_ 1))
  rw [← HX.out] at rb9
  obtain ⟨w11, hw8⟩ : ∃ w8, w8 = w10.setCell ⟨gq, i, none⟩ (.int .u8 (bits .xor .u8 X (bits .or .u8 by_ 1))) := ⟨_, rfl⟩
  rw [← hw8] at rb9 ⊢
  clear hw8
  rw [HX.out] at rb9
  have RB12 := Aside0.mk (show RB w w11 gx gp gq cp cq q0 q1 q2 q3 q4 q5 q6 (q0 + 1) s1 s2 s3 s4 s5 s6 q0 q1 q2 q3 q4 q5 q6 p (Pure.flip (Pure.flip q i (bits .or .u8 by_ 1)) i (bits .or .u8 by_ 1)) from rb9)
  clear rb9 cq0 fq0 HX RB11
  have rb13 := RB12.out
  rw [HQQ.out] at rb13
  have RB13 := Aside0.mk rb13
  clear rb13 RB12
  go_wp2
  obtain ⟨cq0, fq0⟩ := RB13.out.rp.cell (i := i) (by rw [HLP.out]; exact hi)
  obtain ⟨X, hX⟩ : ∃ X, X = rd p (i : Int) := ⟨_, rfl⟩
  rw [← hX] at cq0
  have HX := Aside0.mk hX
  clear hX
  go_region
  have rb9 := RB13.out.putp i (bits .xor .u8 (rd p (i : Int)) (bits .or .u8 by_ 1))
  rw [← HX.out] at rb9
  obtain ⟨w12, hw8⟩ : ∃ w8, w8 = w11.setCell ⟨gp, i, none⟩ (.int .u8 (bits .xor .u8 X (bits .or .u8 by_ 1))) := ⟨_, rfl⟩
  rw [← hw8] at rb9 ⊢
  clear hw8
  rw [HX.out] at rb9
  have RB14 := Aside0.mk (show RB w w12.drew.drew gx gp gq cp cq q0 q1 q2 q3 q4 q5 q6 (q0 + 1) s1 s2 s3 s4 s5 s6 q0 q1 q2 q3 q4 q5 q6 (Pure.flip p i (bits .or .u8 by_ 1)) q from rb9.drew.drew)
  clear rb9 cq0 fq0 HX RB13
  go_wp2_with (first
    | (go_at_call 19; have hk := root_Pick.calls k (some ⟨gp, 0, none⟩) cp (Pure.flip p i (bits .or .u8 by_ 1)) (some ⟨gq, 0, none⟩) cq q (q0 + 1) s1 s2 s3 s4 s5 s6 0 w12.drew.drew (Kd.R_reads' RB14.out.rp).2.2 (Kd.R_reads' RB14.out.rp).2.1 (Kd.R_reads' RB14.out.rq).2.2 (Kd.R_reads' RB14.out.rq).2.1 HK3.out; rw [Pure.flip_len, HLP.out, HLQ.out] at hk; (with_reducible refine hk.mono ?_); clear hk; rintro e w13 ⟨rfl, hb⟩; have RB15 := Aside0.mk (RB.below RB14.out hb); clear hb; have xx0 := RB15.out.bx.c0; have xx1 := RB15.out.bx.c1; have xx2 := RB15.out.bx.c2; have xx3 := RB15.out.bx.c3; have xx4 := RB15.out.bx.c4; have xx5 := RB15.out.bx.c5; have xx6 := RB15.out.bx.c6; have xf0 := RB15.out.bx.fr 0; have xf1 := RB15.out.bx.fr 1; have xf2 := RB15.out.bx.fr 2; have xf3 := RB15.out.bx.fr 3; have xf4 := RB15.out.bx.fr 4; have xf5 := RB15.out.bx.fr 5; have xf6 := RB15.out.bx.fr 6; have rr0 := RB15.out.br.c0; have rr1 := RB15.out.br.c1; have rr2 := RB15.out.br.c2; have rr3 := RB15.out.br.c3; have rr4 := RB15.out.br.c4; have rr5 := RB15.out.br.c5; have rr6 := RB15.out.br.c6; have ss0 := RB15.out.bs.c0; have ss1 := RB15.out.bs.c1; have ss2 := RB15.out.bs.c2; have ss3 := RB15.out.bs.c3; have ss4 := RB15.out.bs.c4; have ss5 := RB15.out.bs.c5; have ss6 := RB15.out.bs.c6)
    | ((try (refine gate_guard (by rfl) ?_; dsimp only)); go_at_call 18; refine (stooklaw16_lives.calls k true _ HLV.out).mono ?_; rintro e w99 ⟨rfl, hb99⟩))
  go_ret
  exact ⟨rfl, below_step (RB15.out.putx (q0 + 1) s1 s2 s3 s4 s5 s6).be hb99⟩
set_option maxHeartbeats 8000000 in
set_option maxRecDepth 100000 in
theorem rootback_en (k : Nat) (q0 q1 q2 q3 q4 q5 q6 s0 s1 s2 s3 s4 s5 s6 at_ by_ pr ps : Int) (i : Nat) (p q : List Int) (w : World) (hP : root_Put.f k q0 q1 q2 q3 q4 q5 q6 = some (p, 0)) (hlp : p.length = 512) (hpr : root_Place.f q0 q1 q2 q3 q4 q5 q6 = some pr) (hG : root_Get.f k pr p = some (q0, q1, q2, q3, q4, q5, q6, 0)) (h1 : 1 ≤ q0) (h2 : q0 ≤ 4611686018427387904) (hLv : stooklaw16_lives.f k = some true) (hQ : root_Put.f k (q0 + 1) s1 s2 s3 s4 s5 s6 = some (q, 0)) (hlq : q.length = 512) (hps : root_Place.f (q0 + 1) s1 s2 s3 s4 s5 s6 = some ps) (hpq : ps ≠ pr) (hpar : (pr == 1) = false) (hi : i < 512) (h0 : at_ < 0) (h1n : -9223372036854775808 ≤ at_) (hm : -(at_ + 1).tmod 512 = (i : Int)) (hK1 : root_Pick.f k p q = some (q0 + 1, s1, s2, s3, s4, s5, s6, 0)) (hK2 : root_Pick.f k p (Pure.flip q i (bits .or .u8 by_ 1)) = some (q0, q1, q2, q3, q4, q5, q6, 0)) (hK3 : root_Pick.f k (Pure.flip p i (bits .or .u8 by_ 1)) q = some (q0 + 1, s1, s2, s3, s4, s5, s6, 0)) (hqq : Pure.flip (Pure.flip q i (bits .or .u8 by_ 1)) i (bits .or .u8 by_ 1) = q) :
    Calls Try.prog 6 #[.agg #[.int .u64 q0, .int .i64 q1, .int .i64 q2, .int .u64 q3, .int .u64 q4, .int .i64 q5, .int .i64 q6], .agg #[.int .u64 s0, .int .i64 s1, .int .i64 s2, .int .u64 s3, .int .u64 s4, .int .i64 s5, .int .i64 s6], .int .i64 at_, .int .u8 by_] w fun e w' => e = .returned (.bool true) ∧ Below w.heap.size w w' := by
  have HP := Aside0.mk hP
  have HPR := Aside0.mk hpr
  have HLP := Aside0.mk hlp
  have HG := Aside0.mk hG
  have HLV := Aside0.mk hLv
  have hne := fun W => ner_false W q0 q1 q2 q3 q4 q5 q6
  have h3 : 0 ≤ q0 + 1 := by omega
  have h4 : q0 + 1 < 18446744073709551616 := by omega
  clear hP hlp hG hLv hpr
  have HQ := Aside0.mk hQ
  have HLQ := Aside0.mk hlq
  have HPS := Aside0.mk hps
  have hpqb : (ps == pr) = false := beq_eq_false_iff_ne.mpr hpq
  clear hQ hlq hps hpq
  have HK1 := Aside0.mk hK1
  have HK2 := Aside0.mk hK2
  have HK3 := Aside0.mk hK3
  have HQQ := Aside0.mk hqq
  have hne2 := fun W => ner_false W (q0 + 1) s1 s2 s3 s4 s5 s6
  clear hK1 hK2 hK3 hqq
  have h2n : 0 ≤ -(at_ + 1) := by omega
  have h3n : -(at_ + 1) ≤ 9223372036854775807 := by omega
  go_enter Try.func6, Try.ntmps6
  go_wp2_with (first
    | (go_at_call 11; (with_reducible refine (root_Put.calls k q0 q1 q2 q3 q4 q5 q6 p 0 _ HP.out).mono ?_); rintro e w1 ⟨va, rfl, hoa, hb⟩; obtain ⟨gp, cp, ea, _, _, _⟩ := Kd.R_form hoa (by rw [HLP.out]; decide); subst ea; have hr0 : Rb ((w.alloc (.cells #[.int .u64 q0, .int .i64 q1, .int .i64 q2, .int .u64 q3, .int .u64 q4, .int .i64 q5, .int .i64 q6] 34)).alloc (.cells #[.int .u64 s0, .int .i64 s1, .int .i64 s2, .int .u64 s3, .int .u64 s4, .int .i64 s5, .int .i64 s6] 34)) w.heap.size q0 q1 q2 q3 q4 q5 q6 := blk_alloc (rootb_new w (.int .u64 q0) (.int .i64 q1) (.int .i64 q2) (.int .u64 q3) (.int .u64 q4) (.int .i64 q5) (.int .i64 q6)) _; have hs0 : Rb ((w.alloc (.cells #[.int .u64 q0, .int .i64 q1, .int .i64 q2, .int .u64 q3, .int .u64 q4, .int .i64 q5, .int .i64 q6] 34)).alloc (.cells #[.int .u64 s0, .int .i64 s1, .int .i64 s2, .int .u64 s3, .int .u64 s4, .int .i64 s5, .int .i64 s6] 34)) (w.heap.size + 1) s0 s1 s2 s3 s4 s5 s6 := (by have h := rootb_new (w.alloc (.cells #[.int .u64 q0, .int .i64 q1, .int .i64 q2, .int .u64 q3, .int .u64 q4, .int .i64 q5, .int .i64 q6] 34)) (.int .u64 s0) (.int .i64 s1) (.int .i64 s2) (.int .u64 s3) (.int .u64 s4) (.int .i64 s5) (.int .i64 s6); rwa [show (w.alloc (.cells #[.int .u64 q0, .int .i64 q1, .int .i64 q2, .int .u64 q3, .int .u64 q4, .int .i64 q5, .int .i64 q6] 34)).heap.size = w.heap.size + 1 from Array.size_push ..] at h); have H01 := Aside0.mk (below_step (below_alloc (below_alloc (Below.refl w.heap.size w) _) _) hb); have LP := Aside0.mk (show w.heap.size ≤ gp from by have h := Kd.R_base hoa gp rfl; rw [flat_two] at h; omega); have P1 := Aside0.mk (Rw.of (w0 := w) hoa (by rw [flat_two]; omega)); have R1 := Aside0.mk (Rootb.below hr0 hb); have S1 := Aside0.mk (Rootb.below hs0 hb); clear hoa hb hr0 hs0; have a0 := R1.out.c0; have a1 := R1.out.c1; have a2 := R1.out.c2; have a3 := R1.out.c3; have a4 := R1.out.c4; have a5 := R1.out.c5; have a6 := R1.out.c6)
    | (go_at_call 13; (with_reducible refine (root_Place.calls q0 q1 q2 q3 q4 q5 q6 pr w1 HPR.out).mono ?_); rintro e w2 ⟨rfl, hb⟩; have H02 := Aside0.mk (below_step H01.out hb); have P2 := Aside0.mk (Kd.R_below P1.out hb); have R2 := Aside0.mk (Rootb.below R1.out hb); have S2 := Aside0.mk (Rootb.below S1.out hb); clear hb)
    | (go_at_call 15; (with_reducible refine (root_Get.calls k pr (some ⟨gp, 0, none⟩) cp p q0 q1 q2 q3 q4 q5 q6 0 w2 (Kd.R_reads' P2.out).2.2 (Kd.R_reads' P2.out).2.1 HG.out).mono ?_); rintro e w3 ⟨rfl, hb⟩; have H03 := Aside0.mk (below_step H02.out hb); have P3 := Aside0.mk (Kd.R_below P2.out hb); have R3 := Aside0.mk (Rootb.below R2.out hb); have S3 := Aside0.mk (Rootb.below S2.out hb); clear hb; have hr3 : Rb (w3.alloc (.cells #[.int .u64 q0, .int .i64 q1, .int .i64 q2, .int .u64 q3, .int .u64 q4, .int .i64 q5, .int .i64 q6] 34)) w.heap.size q0 q1 q2 q3 q4 q5 q6 := blk_alloc R3.out _; have hs3 : Rb (w3.alloc (.cells #[.int .u64 q0, .int .i64 q1, .int .i64 q2, .int .u64 q3, .int .u64 q4, .int .i64 q5, .int .i64 q6] 34)) (w.heap.size + 1) s0 s1 s2 s3 s4 s5 s6 := blk_alloc S3.out _; have b0 := hr3.c0; have b1 := hr3.c1; have b2 := hr3.c2; have b3 := hr3.c3; have b4 := hr3.c4; have b5 := hr3.c5; have b6 := hr3.c6; have c0 := hs3.c0; have c1 := hs3.c1; have c2 := hs3.c2; have c3 := hs3.c3; have c4 := hs3.c4; have c5 := hs3.c5; have c6 := hs3.c6; have bf0 := hs3.fr 0; clear hr3 hs3)
    | (go_at_call 11; (with_reducible refine (root_Put.calls k (q0 + 1) s1 s2 s3 s4 s5 s6 q 0 _ HQ.out).mono ?_); rintro e w4 ⟨vb, rfl, hob, hb⟩; obtain ⟨gq, cq, eb, _, _, _⟩ := Kd.R_form hob (by rw [HLQ.out]; decide); subst eb; have RB4 := Aside0.mk (rb_start (n := q0 + 1) R3.out S3.out P3.out LP.out H03.out hb hob); clear hob hb))
  have zr0 := RB4.out.br.c0
  have zr1 := RB4.out.br.c1
  have zr2 := RB4.out.br.c2
  have zr3 := RB4.out.br.c3
  have zr4 := RB4.out.br.c4
  have zr5 := RB4.out.br.c5
  have zr6 := RB4.out.br.c6
  have zs0 := RB4.out.bs.c0
  have zs1 := RB4.out.bs.c1
  have zs2 := RB4.out.bs.c2
  have zs3 := RB4.out.bs.c3
  have zs4 := RB4.out.bs.c4
  have zs5 := RB4.out.bs.c5
  have zs6 := RB4.out.bs.c6
  go_region_held3 (fun w' => w'.cell? ⟨w.heap.size, 0, none⟩ = some (.int .u64 q0) ∧ w'.cell? ⟨w.heap.size, 1, none⟩ = some (.int .i64 q1) ∧ w'.cell? ⟨w.heap.size, 2, none⟩ = some (.int .i64 q2) ∧ w'.cell? ⟨w.heap.size, 3, none⟩ = some (.int .u64 q3) ∧ w'.cell? ⟨w.heap.size, 4, none⟩ = some (.int .u64 q4) ∧ w'.cell? ⟨w.heap.size, 5, none⟩ = some (.int .i64 q5) ∧ w'.cell? ⟨w.heap.size, 6, none⟩ = some (.int .i64 q6) ∧ w'.cell? ⟨w.heap.size + 1, 0, none⟩ = some (.int .u64 (q0 + 1)) ∧ w'.cell? ⟨w.heap.size + 1, 1, none⟩ = some (.int .i64 s1) ∧ w'.cell? ⟨w.heap.size + 1, 2, none⟩ = some (.int .i64 s2) ∧ w'.cell? ⟨w.heap.size + 1, 3, none⟩ = some (.int .u64 s3) ∧ w'.cell? ⟨w.heap.size + 1, 4, none⟩ = some (.int .u64 s4) ∧ w'.cell? ⟨w.heap.size + 1, 5, none⟩ = some (.int .i64 s5) ∧ w'.cell? ⟨w.heap.size + 1, 6, none⟩ = some (.int .i64 s6)) (first | go_keep | exact ⟨ya0, ya1, ya2, ya3, ya4, ya5, ya6, yb0, yb1, yb2, yb3, yb4, yb5, yb6⟩ | exact ⟨yc0, yc1, yc2, yc3, yc4, yc5, yc6, yd0, yd1, yd2, yd3, yd4, yd5, yd6⟩) (first | (go_at_call 13; (with_reducible refine (root_Place.calls (q0 + 1) s1 s2 s3 s4 s5 s6 ps _ HPS.out).mono ?_); rintro e wa ⟨rfl, hbx⟩; have RBa := Aside0.mk (RB.below (by first | exact RB4.out.drew | exact RBb.out) hbx); clear hbx; have ya0 := RBa.out.br.c0; have ya1 := RBa.out.br.c1; have ya2 := RBa.out.br.c2; have ya3 := RBa.out.br.c3; have ya4 := RBa.out.br.c4; have ya5 := RBa.out.br.c5; have ya6 := RBa.out.br.c6; have yb0 := RBa.out.bs.c0; have yb1 := RBa.out.bs.c1; have yb2 := RBa.out.bs.c2; have yb3 := RBa.out.bs.c3; have yb4 := RBa.out.bs.c4; have yb5 := RBa.out.bs.c5; have yb6 := RBa.out.bs.c6) | (go_at_call 13; (with_reducible refine (root_Place.calls q0 q1 q2 q3 q4 q5 q6 pr _ HPR.out).mono ?_); rintro e wb ⟨rfl, hbx⟩; have RBb := Aside0.mk (RB.below (by first | exact RB4.out.drew | exact RBa.out) hbx); clear hbx; have yc0 := RBb.out.br.c0; have yc1 := RBb.out.br.c1; have yc2 := RBb.out.br.c2; have yc3 := RBb.out.br.c3; have yc4 := RBb.out.br.c4; have yc5 := RBb.out.br.c5; have yc6 := RBb.out.br.c6; have yd0 := RBb.out.bs.c0; have yd1 := RBb.out.bs.c1; have yd2 := RBb.out.bs.c2; have yd3 := RBb.out.bs.c3; have yd4 := RBb.out.bs.c4; have yd5 := RBb.out.bs.c5; have yd6 := RBb.out.bs.c6))
  clear ya0 ya1 ya2 ya3 ya4 ya5 ya6 yb0 yb1 yb2 yb3 yb4 yb5 yb6 yc0 yc1 yc2 yc3 yc4 yc5 yc6 yd0 yd1 yd2 yd3 yd4 yd5 yd6 zr0 zr1 zr2 zr3 zr4 zr5 zr6 zs0 zs1 zs2 zs3 zs4 zs5 zs6
  have RB5 := RBb
  clear RBa RBb RB4
  obtain ⟨gx, hgx⟩ : ∃ gx, gx = w3.heap.size := ⟨_, rfl⟩
  rw [← hgx] at RB5 ⊢
  clear hgx
  rw [HLP.out, HLQ.out]
  have ne1 := RB5.out.nrx
  have ne2 := RB5.out.nsx
  go_wp2_with (first
    | (go_at_call 13; (with_reducible refine (root_Place.calls q0 q1 q2 q3 q4 q5 q6 pr wb HPR.out).mono ?_); rintro e w5 ⟨rfl, hb⟩; have RB6 := Aside0.mk (RB.below RB5.out hb); clear hb)
    | (go_at_call 19; have hk := root_Pick.calls k (some ⟨gp, 0, none⟩) cp p (some ⟨gq, 0, none⟩) cq q (q0 + 1) s1 s2 s3 s4 s5 s6 0 w5 (Kd.R_reads' RB6.out.rp).2.2 (Kd.R_reads' RB6.out.rp).2.1 (Kd.R_reads' RB6.out.rq).2.2 (Kd.R_reads' RB6.out.rq).2.1 HK1.out; rw [HLP.out, HLQ.out] at hk; (with_reducible refine hk.mono ?_); clear hk; rintro e w6 ⟨rfl, hb⟩; have RB7 := Aside0.mk (RB.below RB6.out hb); clear hb; have xx0 := RB7.out.bx.c0; have xx1 := RB7.out.bx.c1; have xx2 := RB7.out.bx.c2; have xx3 := RB7.out.bx.c3; have xx4 := RB7.out.bx.c4; have xx5 := RB7.out.bx.c5; have xx6 := RB7.out.bx.c6; have xf0 := RB7.out.bx.fr 0; have xf1 := RB7.out.bx.fr 1; have xf2 := RB7.out.bx.fr 2; have xf3 := RB7.out.bx.fr 3; have xf4 := RB7.out.bx.fr 4; have xf5 := RB7.out.bx.fr 5; have xf6 := RB7.out.bx.fr 6; have rr0 := RB7.out.br.c0; have rr1 := RB7.out.br.c1; have rr2 := RB7.out.br.c2; have rr3 := RB7.out.br.c3; have rr4 := RB7.out.br.c4; have rr5 := RB7.out.br.c5; have rr6 := RB7.out.br.c6; have ss0 := RB7.out.bs.c0; have ss1 := RB7.out.bs.c1; have ss2 := RB7.out.bs.c2; have ss3 := RB7.out.bs.c3; have ss4 := RB7.out.bs.c4; have ss5 := RB7.out.bs.c5; have ss6 := RB7.out.bs.c6))
  have rb8 := RB7.out.putx (q0 + 1) s1 s2 s3 s4 s5 s6
  obtain ⟨w7, hw7⟩ : ∃ w7, w7 = (((((((w6.setCell ⟨gx, 0, none⟩ (.int .u64 (q0 + 1))).setCell ⟨gx, 1, none⟩ (.int .i64 s1)).setCell ⟨gx, 2, none⟩ (.int .i64 s2)).setCell ⟨gx, 3, none⟩ (.int .u64 s3)).setCell ⟨gx, 4, none⟩ (.int .u64 s4)).setCell ⟨gx, 5, none⟩ (.int .i64 s5)).setCell ⟨gx, 6, none⟩ (.int .i64 s6)) := ⟨_, rfl⟩
  rw [← hw7] at rb8 ⊢
  clear hw7
  have RB8 := Aside0.mk rb8
  clear rb8 RB7 RB6 RB5
  have i0 : (0 : Int) ≤ (i : Int) := by omega
  have i1 : (i : Int) < 512 := by omega
  obtain ⟨cq0, fq0⟩ := RB8.out.rq.cell (i := i) (by rw [HLQ.out]; exact hi)
  obtain ⟨X, hX⟩ : ∃ X, X = rd q (i : Int) := ⟨_, rfl⟩
  rw [← hX] at cq0
  have HX := Aside0.mk hX
  clear hX
  go_region
  have rb9 := RB8.out.putq i (bits .xor .u8 (rd q (i : Int)) (bits .or .u8 by_ 1))
  rw [← HX.out] at rb9
  obtain ⟨w8, hw8⟩ : ∃ w8, w8 = w7.setCell ⟨gq, i, none⟩ (.int .u8 (bits .xor .u8 X (bits .or .u8 by_ 1))) := ⟨_, rfl⟩
  rw [← hw8] at rb9 ⊢
  clear hw8
  rw [HX.out] at rb9
  have RB9 := Aside0.mk (show RB w w8.drew gx gp gq cp cq q0 q1 q2 q3 q4 q5 q6 (q0 + 1) s1 s2 s3 s4 s5 s6 (q0 + 1) s1 s2 s3 s4 s5 s6 p (Pure.flip q i (bits .or .u8 by_ 1)) from rb9.drew)
  clear rb9 cq0 fq0 HX RB8
  go_wp2_with (first
    | (go_at_call 19; have hk := root_Pick.calls k (some ⟨gp, 0, none⟩) cp p (some ⟨gq, 0, none⟩) cq (Pure.flip q i (bits .or .u8 by_ 1)) q0 q1 q2 q3 q4 q5 q6 0 w8.drew (Kd.R_reads' RB9.out.rp).2.2 (Kd.R_reads' RB9.out.rp).2.1 (Kd.R_reads' RB9.out.rq).2.2 (Kd.R_reads' RB9.out.rq).2.1 HK2.out; rw [Pure.flip_len, HLP.out, HLQ.out] at hk; (with_reducible refine hk.mono ?_); clear hk; rintro e w9 ⟨rfl, hb⟩; have RB10 := Aside0.mk (RB.below RB9.out hb); clear hb; have xx0 := RB10.out.bx.c0; have xx1 := RB10.out.bx.c1; have xx2 := RB10.out.bx.c2; have xx3 := RB10.out.bx.c3; have xx4 := RB10.out.bx.c4; have xx5 := RB10.out.bx.c5; have xx6 := RB10.out.bx.c6; have xf0 := RB10.out.bx.fr 0; have xf1 := RB10.out.bx.fr 1; have xf2 := RB10.out.bx.fr 2; have xf3 := RB10.out.bx.fr 3; have xf4 := RB10.out.bx.fr 4; have xf5 := RB10.out.bx.fr 5; have xf6 := RB10.out.bx.fr 6; have rr0 := RB10.out.br.c0; have rr1 := RB10.out.br.c1; have rr2 := RB10.out.br.c2; have rr3 := RB10.out.br.c3; have rr4 := RB10.out.br.c4; have rr5 := RB10.out.br.c5; have rr6 := RB10.out.br.c6; have ss0 := RB10.out.bs.c0; have ss1 := RB10.out.bs.c1; have ss2 := RB10.out.bs.c2; have ss3 := RB10.out.bs.c3; have ss4 := RB10.out.bs.c4; have ss5 := RB10.out.bs.c5; have ss6 := RB10.out.bs.c6))
  have rb8 := RB10.out.putx q0 q1 q2 q3 q4 q5 q6
  obtain ⟨w10, hw7⟩ : ∃ w7, w7 = (((((((w9.setCell ⟨gx, 0, none⟩ (.int .u64 q0)).setCell ⟨gx, 1, none⟩ (.int .i64 q1)).setCell ⟨gx, 2, none⟩ (.int .i64 q2)).setCell ⟨gx, 3, none⟩ (.int .u64 q3)).setCell ⟨gx, 4, none⟩ (.int .u64 q4)).setCell ⟨gx, 5, none⟩ (.int .i64 q5)).setCell ⟨gx, 6, none⟩ (.int .i64 q6)) := ⟨_, rfl⟩
  rw [← hw7] at rb8 ⊢
  clear hw7
  have RB11 := Aside0.mk rb8
  clear rb8 RB10
  obtain ⟨cq0, fq0⟩ := RB11.out.rq.cell (i := i) (by rw [Pure.flip_len, HLQ.out]; exact hi)
  obtain ⟨X, hX⟩ : ∃ X, X = rd (Pure.flip q i (bits .or .u8 by_ 1)) (i : Int) := ⟨_, rfl⟩
  rw [← hX] at cq0
  have HX := Aside0.mk hX
  clear hX
  go_region
  have rb9 := RB11.out.putq i (bits .xor .u8 (rd (Pure.flip q i (bits .or .u8 by_ 1)) (i : Int)) (bits .or .u8 by_ 1))
  rw [← HX.out] at rb9
  obtain ⟨w11, hw8⟩ : ∃ w8, w8 = w10.setCell ⟨gq, i, none⟩ (.int .u8 (bits .xor .u8 X (bits .or .u8 by_ 1))) := ⟨_, rfl⟩
  rw [← hw8] at rb9 ⊢
  clear hw8
  rw [HX.out] at rb9
  have RB12 := Aside0.mk (show RB w w11 gx gp gq cp cq q0 q1 q2 q3 q4 q5 q6 (q0 + 1) s1 s2 s3 s4 s5 s6 q0 q1 q2 q3 q4 q5 q6 p (Pure.flip (Pure.flip q i (bits .or .u8 by_ 1)) i (bits .or .u8 by_ 1)) from rb9)
  clear rb9 cq0 fq0 HX RB11
  have rb13 := RB12.out
  rw [HQQ.out] at rb13
  have RB13 := Aside0.mk rb13
  clear rb13 RB12
  go_wp2
  obtain ⟨cq0, fq0⟩ := RB13.out.rp.cell (i := i) (by rw [HLP.out]; exact hi)
  obtain ⟨X, hX⟩ : ∃ X, X = rd p (i : Int) := ⟨_, rfl⟩
  rw [← hX] at cq0
  have HX := Aside0.mk hX
  clear hX
  go_region
  have rb9 := RB13.out.putp i (bits .xor .u8 (rd p (i : Int)) (bits .or .u8 by_ 1))
  rw [← HX.out] at rb9
  obtain ⟨w12, hw8⟩ : ∃ w8, w8 = w11.setCell ⟨gp, i, none⟩ (.int .u8 (bits .xor .u8 X (bits .or .u8 by_ 1))) := ⟨_, rfl⟩
  rw [← hw8] at rb9 ⊢
  clear hw8
  rw [HX.out] at rb9
  have RB14 := Aside0.mk (show RB w w12.drew.drew gx gp gq cp cq q0 q1 q2 q3 q4 q5 q6 (q0 + 1) s1 s2 s3 s4 s5 s6 q0 q1 q2 q3 q4 q5 q6 (Pure.flip p i (bits .or .u8 by_ 1)) q from rb9.drew.drew)
  clear rb9 cq0 fq0 HX RB13
  go_wp2_with (first
    | (go_at_call 19; have hk := root_Pick.calls k (some ⟨gp, 0, none⟩) cp (Pure.flip p i (bits .or .u8 by_ 1)) (some ⟨gq, 0, none⟩) cq q (q0 + 1) s1 s2 s3 s4 s5 s6 0 w12.drew.drew (Kd.R_reads' RB14.out.rp).2.2 (Kd.R_reads' RB14.out.rp).2.1 (Kd.R_reads' RB14.out.rq).2.2 (Kd.R_reads' RB14.out.rq).2.1 HK3.out; rw [Pure.flip_len, HLP.out, HLQ.out] at hk; (with_reducible refine hk.mono ?_); clear hk; rintro e w13 ⟨rfl, hb⟩; have RB15 := Aside0.mk (RB.below RB14.out hb); clear hb; have xx0 := RB15.out.bx.c0; have xx1 := RB15.out.bx.c1; have xx2 := RB15.out.bx.c2; have xx3 := RB15.out.bx.c3; have xx4 := RB15.out.bx.c4; have xx5 := RB15.out.bx.c5; have xx6 := RB15.out.bx.c6; have xf0 := RB15.out.bx.fr 0; have xf1 := RB15.out.bx.fr 1; have xf2 := RB15.out.bx.fr 2; have xf3 := RB15.out.bx.fr 3; have xf4 := RB15.out.bx.fr 4; have xf5 := RB15.out.bx.fr 5; have xf6 := RB15.out.bx.fr 6; have rr0 := RB15.out.br.c0; have rr1 := RB15.out.br.c1; have rr2 := RB15.out.br.c2; have rr3 := RB15.out.br.c3; have rr4 := RB15.out.br.c4; have rr5 := RB15.out.br.c5; have rr6 := RB15.out.br.c6; have ss0 := RB15.out.bs.c0; have ss1 := RB15.out.bs.c1; have ss2 := RB15.out.bs.c2; have ss3 := RB15.out.bs.c3; have ss4 := RB15.out.bs.c4; have ss5 := RB15.out.bs.c5; have ss6 := RB15.out.bs.c6)
    | ((try (refine gate_guard (by rfl) ?_; dsimp only)); go_at_call 18; refine (stooklaw16_lives.calls k true _ HLV.out).mono ?_; rintro e w99 ⟨rfl, hb99⟩))
  go_ret
  exact ⟨rfl, below_step (RB15.out.putx (q0 + 1) s1 s2 s3 s4 s5 s6).be hb99⟩
set_option maxHeartbeats 8000000 in
set_option maxRecDepth 100000 in
theorem rootback_op (k : Nat) (q0 q1 q2 q3 q4 q5 q6 s0 s1 s2 s3 s4 s5 s6 at_ by_ pr ps : Int) (i : Nat) (p q : List Int) (w : World) (hP : root_Put.f k q0 q1 q2 q3 q4 q5 q6 = some (p, 0)) (hlp : p.length = 512) (hpr : root_Place.f q0 q1 q2 q3 q4 q5 q6 = some pr) (hG : root_Get.f k pr p = some (q0, q1, q2, q3, q4, q5, q6, 0)) (h1 : 1 ≤ q0) (h2 : q0 ≤ 4611686018427387904) (hLv : stooklaw16_lives.f k = some true) (hQ : root_Put.f k (q0 + 1) s1 s2 s3 s4 s5 s6 = some (q, 0)) (hlq : q.length = 512) (hps : root_Place.f (q0 + 1) s1 s2 s3 s4 s5 s6 = some ps) (hpq : ps ≠ pr) (hpar : (pr == 1) = true) (hi : i < 512) (h0 : 0 ≤ at_) (hm : at_ % 512 = (i : Int)) (hK1 : root_Pick.f k q p = some (q0 + 1, s1, s2, s3, s4, s5, s6, 0)) (hK2 : root_Pick.f k (Pure.flip q i (bits .or .u8 by_ 1)) p = some (q0, q1, q2, q3, q4, q5, q6, 0)) (hK3 : root_Pick.f k q (Pure.flip p i (bits .or .u8 by_ 1)) = some (q0 + 1, s1, s2, s3, s4, s5, s6, 0)) (hqq : Pure.flip (Pure.flip q i (bits .or .u8 by_ 1)) i (bits .or .u8 by_ 1) = q) :
    Calls Try.prog 6 #[.agg #[.int .u64 q0, .int .i64 q1, .int .i64 q2, .int .u64 q3, .int .u64 q4, .int .i64 q5, .int .i64 q6], .agg #[.int .u64 s0, .int .i64 s1, .int .i64 s2, .int .u64 s3, .int .u64 s4, .int .i64 s5, .int .i64 s6], .int .i64 at_, .int .u8 by_] w fun e w' => e = .returned (.bool true) ∧ Below w.heap.size w w' := by
  have HP := Aside0.mk hP
  have HPR := Aside0.mk hpr
  have HLP := Aside0.mk hlp
  have HG := Aside0.mk hG
  have HLV := Aside0.mk hLv
  have hne := fun W => ner_false W q0 q1 q2 q3 q4 q5 q6
  have h3 : 0 ≤ q0 + 1 := by omega
  have h4 : q0 + 1 < 18446744073709551616 := by omega
  clear hP hlp hG hLv hpr
  have HQ := Aside0.mk hQ
  have HLQ := Aside0.mk hlq
  have HPS := Aside0.mk hps
  have hpqb : (ps == pr) = false := beq_eq_false_iff_ne.mpr hpq
  clear hQ hlq hps hpq
  have HK1 := Aside0.mk hK1
  have HK2 := Aside0.mk hK2
  have HK3 := Aside0.mk hK3
  have HQQ := Aside0.mk hqq
  have hne2 := fun W => ner_false W (q0 + 1) s1 s2 s3 s4 s5 s6
  clear hK1 hK2 hK3 hqq
  go_enter Try.func6, Try.ntmps6
  go_wp2_with (first
    | (go_at_call 11; (with_reducible refine (root_Put.calls k q0 q1 q2 q3 q4 q5 q6 p 0 _ HP.out).mono ?_); rintro e w1 ⟨va, rfl, hoa, hb⟩; obtain ⟨gp, cp, ea, _, _, _⟩ := Kd.R_form hoa (by rw [HLP.out]; decide); subst ea; have hr0 : Rb ((w.alloc (.cells #[.int .u64 q0, .int .i64 q1, .int .i64 q2, .int .u64 q3, .int .u64 q4, .int .i64 q5, .int .i64 q6] 34)).alloc (.cells #[.int .u64 s0, .int .i64 s1, .int .i64 s2, .int .u64 s3, .int .u64 s4, .int .i64 s5, .int .i64 s6] 34)) w.heap.size q0 q1 q2 q3 q4 q5 q6 := blk_alloc (rootb_new w (.int .u64 q0) (.int .i64 q1) (.int .i64 q2) (.int .u64 q3) (.int .u64 q4) (.int .i64 q5) (.int .i64 q6)) _; have hs0 : Rb ((w.alloc (.cells #[.int .u64 q0, .int .i64 q1, .int .i64 q2, .int .u64 q3, .int .u64 q4, .int .i64 q5, .int .i64 q6] 34)).alloc (.cells #[.int .u64 s0, .int .i64 s1, .int .i64 s2, .int .u64 s3, .int .u64 s4, .int .i64 s5, .int .i64 s6] 34)) (w.heap.size + 1) s0 s1 s2 s3 s4 s5 s6 := (by have h := rootb_new (w.alloc (.cells #[.int .u64 q0, .int .i64 q1, .int .i64 q2, .int .u64 q3, .int .u64 q4, .int .i64 q5, .int .i64 q6] 34)) (.int .u64 s0) (.int .i64 s1) (.int .i64 s2) (.int .u64 s3) (.int .u64 s4) (.int .i64 s5) (.int .i64 s6); rwa [show (w.alloc (.cells #[.int .u64 q0, .int .i64 q1, .int .i64 q2, .int .u64 q3, .int .u64 q4, .int .i64 q5, .int .i64 q6] 34)).heap.size = w.heap.size + 1 from Array.size_push ..] at h); have H01 := Aside0.mk (below_step (below_alloc (below_alloc (Below.refl w.heap.size w) _) _) hb); have LP := Aside0.mk (show w.heap.size ≤ gp from by have h := Kd.R_base hoa gp rfl; rw [flat_two] at h; omega); have P1 := Aside0.mk (Rw.of (w0 := w) hoa (by rw [flat_two]; omega)); have R1 := Aside0.mk (Rootb.below hr0 hb); have S1 := Aside0.mk (Rootb.below hs0 hb); clear hoa hb hr0 hs0; have a0 := R1.out.c0; have a1 := R1.out.c1; have a2 := R1.out.c2; have a3 := R1.out.c3; have a4 := R1.out.c4; have a5 := R1.out.c5; have a6 := R1.out.c6)
    | (go_at_call 13; (with_reducible refine (root_Place.calls q0 q1 q2 q3 q4 q5 q6 pr w1 HPR.out).mono ?_); rintro e w2 ⟨rfl, hb⟩; have H02 := Aside0.mk (below_step H01.out hb); have P2 := Aside0.mk (Kd.R_below P1.out hb); have R2 := Aside0.mk (Rootb.below R1.out hb); have S2 := Aside0.mk (Rootb.below S1.out hb); clear hb)
    | (go_at_call 15; (with_reducible refine (root_Get.calls k pr (some ⟨gp, 0, none⟩) cp p q0 q1 q2 q3 q4 q5 q6 0 w2 (Kd.R_reads' P2.out).2.2 (Kd.R_reads' P2.out).2.1 HG.out).mono ?_); rintro e w3 ⟨rfl, hb⟩; have H03 := Aside0.mk (below_step H02.out hb); have P3 := Aside0.mk (Kd.R_below P2.out hb); have R3 := Aside0.mk (Rootb.below R2.out hb); have S3 := Aside0.mk (Rootb.below S2.out hb); clear hb; have hr3 : Rb (w3.alloc (.cells #[.int .u64 q0, .int .i64 q1, .int .i64 q2, .int .u64 q3, .int .u64 q4, .int .i64 q5, .int .i64 q6] 34)) w.heap.size q0 q1 q2 q3 q4 q5 q6 := blk_alloc R3.out _; have hs3 : Rb (w3.alloc (.cells #[.int .u64 q0, .int .i64 q1, .int .i64 q2, .int .u64 q3, .int .u64 q4, .int .i64 q5, .int .i64 q6] 34)) (w.heap.size + 1) s0 s1 s2 s3 s4 s5 s6 := blk_alloc S3.out _; have b0 := hr3.c0; have b1 := hr3.c1; have b2 := hr3.c2; have b3 := hr3.c3; have b4 := hr3.c4; have b5 := hr3.c5; have b6 := hr3.c6; have c0 := hs3.c0; have c1 := hs3.c1; have c2 := hs3.c2; have c3 := hs3.c3; have c4 := hs3.c4; have c5 := hs3.c5; have c6 := hs3.c6; have bf0 := hs3.fr 0; clear hr3 hs3)
    | (go_at_call 11; (with_reducible refine (root_Put.calls k (q0 + 1) s1 s2 s3 s4 s5 s6 q 0 _ HQ.out).mono ?_); rintro e w4 ⟨vb, rfl, hob, hb⟩; obtain ⟨gq, cq, eb, _, _, _⟩ := Kd.R_form hob (by rw [HLQ.out]; decide); subst eb; have RB4 := Aside0.mk (rb_start (n := q0 + 1) R3.out S3.out P3.out LP.out H03.out hb hob); clear hob hb))
  have zr0 := RB4.out.br.c0
  have zr1 := RB4.out.br.c1
  have zr2 := RB4.out.br.c2
  have zr3 := RB4.out.br.c3
  have zr4 := RB4.out.br.c4
  have zr5 := RB4.out.br.c5
  have zr6 := RB4.out.br.c6
  have zs0 := RB4.out.bs.c0
  have zs1 := RB4.out.bs.c1
  have zs2 := RB4.out.bs.c2
  have zs3 := RB4.out.bs.c3
  have zs4 := RB4.out.bs.c4
  have zs5 := RB4.out.bs.c5
  have zs6 := RB4.out.bs.c6
  go_region_held3 (fun w' => w'.cell? ⟨w.heap.size, 0, none⟩ = some (.int .u64 q0) ∧ w'.cell? ⟨w.heap.size, 1, none⟩ = some (.int .i64 q1) ∧ w'.cell? ⟨w.heap.size, 2, none⟩ = some (.int .i64 q2) ∧ w'.cell? ⟨w.heap.size, 3, none⟩ = some (.int .u64 q3) ∧ w'.cell? ⟨w.heap.size, 4, none⟩ = some (.int .u64 q4) ∧ w'.cell? ⟨w.heap.size, 5, none⟩ = some (.int .i64 q5) ∧ w'.cell? ⟨w.heap.size, 6, none⟩ = some (.int .i64 q6) ∧ w'.cell? ⟨w.heap.size + 1, 0, none⟩ = some (.int .u64 (q0 + 1)) ∧ w'.cell? ⟨w.heap.size + 1, 1, none⟩ = some (.int .i64 s1) ∧ w'.cell? ⟨w.heap.size + 1, 2, none⟩ = some (.int .i64 s2) ∧ w'.cell? ⟨w.heap.size + 1, 3, none⟩ = some (.int .u64 s3) ∧ w'.cell? ⟨w.heap.size + 1, 4, none⟩ = some (.int .u64 s4) ∧ w'.cell? ⟨w.heap.size + 1, 5, none⟩ = some (.int .i64 s5) ∧ w'.cell? ⟨w.heap.size + 1, 6, none⟩ = some (.int .i64 s6)) (first | go_keep | exact ⟨ya0, ya1, ya2, ya3, ya4, ya5, ya6, yb0, yb1, yb2, yb3, yb4, yb5, yb6⟩ | exact ⟨yc0, yc1, yc2, yc3, yc4, yc5, yc6, yd0, yd1, yd2, yd3, yd4, yd5, yd6⟩) (first | (go_at_call 13; (with_reducible refine (root_Place.calls (q0 + 1) s1 s2 s3 s4 s5 s6 ps _ HPS.out).mono ?_); rintro e wa ⟨rfl, hbx⟩; have RBa := Aside0.mk (RB.below (by first | exact RB4.out.drew | exact RBb.out) hbx); clear hbx; have ya0 := RBa.out.br.c0; have ya1 := RBa.out.br.c1; have ya2 := RBa.out.br.c2; have ya3 := RBa.out.br.c3; have ya4 := RBa.out.br.c4; have ya5 := RBa.out.br.c5; have ya6 := RBa.out.br.c6; have yb0 := RBa.out.bs.c0; have yb1 := RBa.out.bs.c1; have yb2 := RBa.out.bs.c2; have yb3 := RBa.out.bs.c3; have yb4 := RBa.out.bs.c4; have yb5 := RBa.out.bs.c5; have yb6 := RBa.out.bs.c6) | (go_at_call 13; (with_reducible refine (root_Place.calls q0 q1 q2 q3 q4 q5 q6 pr _ HPR.out).mono ?_); rintro e wb ⟨rfl, hbx⟩; have RBb := Aside0.mk (RB.below (by first | exact RB4.out.drew | exact RBa.out) hbx); clear hbx; have yc0 := RBb.out.br.c0; have yc1 := RBb.out.br.c1; have yc2 := RBb.out.br.c2; have yc3 := RBb.out.br.c3; have yc4 := RBb.out.br.c4; have yc5 := RBb.out.br.c5; have yc6 := RBb.out.br.c6; have yd0 := RBb.out.bs.c0; have yd1 := RBb.out.bs.c1; have yd2 := RBb.out.bs.c2; have yd3 := RBb.out.bs.c3; have yd4 := RBb.out.bs.c4; have yd5 := RBb.out.bs.c5; have yd6 := RBb.out.bs.c6))
  clear ya0 ya1 ya2 ya3 ya4 ya5 ya6 yb0 yb1 yb2 yb3 yb4 yb5 yb6 yc0 yc1 yc2 yc3 yc4 yc5 yc6 yd0 yd1 yd2 yd3 yd4 yd5 yd6 zr0 zr1 zr2 zr3 zr4 zr5 zr6 zs0 zs1 zs2 zs3 zs4 zs5 zs6
  have RB5 := RBb
  clear RBa RBb RB4
  obtain ⟨gx, hgx⟩ : ∃ gx, gx = w3.heap.size := ⟨_, rfl⟩
  rw [← hgx] at RB5 ⊢
  clear hgx
  rw [HLP.out, HLQ.out]
  have ne1 := RB5.out.nrx
  have ne2 := RB5.out.nsx
  go_wp2_with (first
    | (go_at_call 13; (with_reducible refine (root_Place.calls q0 q1 q2 q3 q4 q5 q6 pr wb HPR.out).mono ?_); rintro e w5 ⟨rfl, hb⟩; have RB6 := Aside0.mk (RB.below RB5.out hb); clear hb)
    | (go_at_call 19; have hk := root_Pick.calls k (some ⟨gq, 0, none⟩) cq q (some ⟨gp, 0, none⟩) cp p (q0 + 1) s1 s2 s3 s4 s5 s6 0 w5 (Kd.R_reads' RB6.out.rq).2.2 (Kd.R_reads' RB6.out.rq).2.1 (Kd.R_reads' RB6.out.rp).2.2 (Kd.R_reads' RB6.out.rp).2.1 HK1.out; rw [HLP.out, HLQ.out] at hk; (with_reducible refine hk.mono ?_); clear hk; rintro e w6 ⟨rfl, hb⟩; have RB7 := Aside0.mk (RB.below RB6.out hb); clear hb; have xx0 := RB7.out.bx.c0; have xx1 := RB7.out.bx.c1; have xx2 := RB7.out.bx.c2; have xx3 := RB7.out.bx.c3; have xx4 := RB7.out.bx.c4; have xx5 := RB7.out.bx.c5; have xx6 := RB7.out.bx.c6; have xf0 := RB7.out.bx.fr 0; have xf1 := RB7.out.bx.fr 1; have xf2 := RB7.out.bx.fr 2; have xf3 := RB7.out.bx.fr 3; have xf4 := RB7.out.bx.fr 4; have xf5 := RB7.out.bx.fr 5; have xf6 := RB7.out.bx.fr 6; have rr0 := RB7.out.br.c0; have rr1 := RB7.out.br.c1; have rr2 := RB7.out.br.c2; have rr3 := RB7.out.br.c3; have rr4 := RB7.out.br.c4; have rr5 := RB7.out.br.c5; have rr6 := RB7.out.br.c6; have ss0 := RB7.out.bs.c0; have ss1 := RB7.out.bs.c1; have ss2 := RB7.out.bs.c2; have ss3 := RB7.out.bs.c3; have ss4 := RB7.out.bs.c4; have ss5 := RB7.out.bs.c5; have ss6 := RB7.out.bs.c6))
  have rb8 := RB7.out.putx (q0 + 1) s1 s2 s3 s4 s5 s6
  obtain ⟨w7, hw7⟩ : ∃ w7, w7 = (((((((w6.setCell ⟨gx, 0, none⟩ (.int .u64 (q0 + 1))).setCell ⟨gx, 1, none⟩ (.int .i64 s1)).setCell ⟨gx, 2, none⟩ (.int .i64 s2)).setCell ⟨gx, 3, none⟩ (.int .u64 s3)).setCell ⟨gx, 4, none⟩ (.int .u64 s4)).setCell ⟨gx, 5, none⟩ (.int .i64 s5)).setCell ⟨gx, 6, none⟩ (.int .i64 s6)) := ⟨_, rfl⟩
  rw [← hw7] at rb8 ⊢
  clear hw7
  have RB8 := Aside0.mk rb8
  clear rb8 RB7 RB6 RB5
  have i0 : (0 : Int) ≤ (i : Int) := by omega
  have i1 : (i : Int) < 512 := by omega
  obtain ⟨cq0, fq0⟩ := RB8.out.rq.cell (i := i) (by rw [HLQ.out]; exact hi)
  obtain ⟨X, hX⟩ : ∃ X, X = rd q (i : Int) := ⟨_, rfl⟩
  rw [← hX] at cq0
  have HX := Aside0.mk hX
  clear hX
  go_region
  have rb9 := RB8.out.putq i (bits .xor .u8 (rd q (i : Int)) (bits .or .u8 by_ 1))
  rw [← HX.out] at rb9
  obtain ⟨w8, hw8⟩ : ∃ w8, w8 = w7.setCell ⟨gq, i, none⟩ (.int .u8 (bits .xor .u8 X (bits .or .u8 by_ 1))) := ⟨_, rfl⟩
  rw [← hw8] at rb9 ⊢
  clear hw8
  rw [HX.out] at rb9
  have RB9 := Aside0.mk (show RB w w8.drew gx gp gq cp cq q0 q1 q2 q3 q4 q5 q6 (q0 + 1) s1 s2 s3 s4 s5 s6 (q0 + 1) s1 s2 s3 s4 s5 s6 p (Pure.flip q i (bits .or .u8 by_ 1)) from rb9.drew)
  clear rb9 cq0 fq0 HX RB8
  go_wp2_with (first
    | (go_at_call 19; have hk := root_Pick.calls k (some ⟨gq, 0, none⟩) cq (Pure.flip q i (bits .or .u8 by_ 1)) (some ⟨gp, 0, none⟩) cp p q0 q1 q2 q3 q4 q5 q6 0 w8.drew (Kd.R_reads' RB9.out.rq).2.2 (Kd.R_reads' RB9.out.rq).2.1 (Kd.R_reads' RB9.out.rp).2.2 (Kd.R_reads' RB9.out.rp).2.1 HK2.out; rw [Pure.flip_len, HLP.out, HLQ.out] at hk; (with_reducible refine hk.mono ?_); clear hk; rintro e w9 ⟨rfl, hb⟩; have RB10 := Aside0.mk (RB.below RB9.out hb); clear hb; have xx0 := RB10.out.bx.c0; have xx1 := RB10.out.bx.c1; have xx2 := RB10.out.bx.c2; have xx3 := RB10.out.bx.c3; have xx4 := RB10.out.bx.c4; have xx5 := RB10.out.bx.c5; have xx6 := RB10.out.bx.c6; have xf0 := RB10.out.bx.fr 0; have xf1 := RB10.out.bx.fr 1; have xf2 := RB10.out.bx.fr 2; have xf3 := RB10.out.bx.fr 3; have xf4 := RB10.out.bx.fr 4; have xf5 := RB10.out.bx.fr 5; have xf6 := RB10.out.bx.fr 6; have rr0 := RB10.out.br.c0; have rr1 := RB10.out.br.c1; have rr2 := RB10.out.br.c2; have rr3 := RB10.out.br.c3; have rr4 := RB10.out.br.c4; have rr5 := RB10.out.br.c5; have rr6 := RB10.out.br.c6; have ss0 := RB10.out.bs.c0; have ss1 := RB10.out.bs.c1; have ss2 := RB10.out.bs.c2; have ss3 := RB10.out.bs.c3; have ss4 := RB10.out.bs.c4; have ss5 := RB10.out.bs.c5; have ss6 := RB10.out.bs.c6))
  have rb8 := RB10.out.putx q0 q1 q2 q3 q4 q5 q6
  obtain ⟨w10, hw7⟩ : ∃ w7, w7 = (((((((w9.setCell ⟨gx, 0, none⟩ (.int .u64 q0)).setCell ⟨gx, 1, none⟩ (.int .i64 q1)).setCell ⟨gx, 2, none⟩ (.int .i64 q2)).setCell ⟨gx, 3, none⟩ (.int .u64 q3)).setCell ⟨gx, 4, none⟩ (.int .u64 q4)).setCell ⟨gx, 5, none⟩ (.int .i64 q5)).setCell ⟨gx, 6, none⟩ (.int .i64 q6)) := ⟨_, rfl⟩
  rw [← hw7] at rb8 ⊢
  clear hw7
  have RB11 := Aside0.mk rb8
  clear rb8 RB10
  obtain ⟨cq0, fq0⟩ := RB11.out.rq.cell (i := i) (by rw [Pure.flip_len, HLQ.out]; exact hi)
  obtain ⟨X, hX⟩ : ∃ X, X = rd (Pure.flip q i (bits .or .u8 by_ 1)) (i : Int) := ⟨_, rfl⟩
  rw [← hX] at cq0
  have HX := Aside0.mk hX
  clear hX
  go_region
  have rb9 := RB11.out.putq i (bits .xor .u8 (rd (Pure.flip q i (bits .or .u8 by_ 1)) (i : Int)) (bits .or .u8 by_ 1))
  rw [← HX.out] at rb9
  obtain ⟨w11, hw8⟩ : ∃ w8, w8 = w10.setCell ⟨gq, i, none⟩ (.int .u8 (bits .xor .u8 X (bits .or .u8 by_ 1))) := ⟨_, rfl⟩
  rw [← hw8] at rb9 ⊢
  clear hw8
  rw [HX.out] at rb9
  have RB12 := Aside0.mk (show RB w w11 gx gp gq cp cq q0 q1 q2 q3 q4 q5 q6 (q0 + 1) s1 s2 s3 s4 s5 s6 q0 q1 q2 q3 q4 q5 q6 p (Pure.flip (Pure.flip q i (bits .or .u8 by_ 1)) i (bits .or .u8 by_ 1)) from rb9)
  clear rb9 cq0 fq0 HX RB11
  have rb13 := RB12.out
  rw [HQQ.out] at rb13
  have RB13 := Aside0.mk rb13
  clear rb13 RB12
  go_wp2
  obtain ⟨cq0, fq0⟩ := RB13.out.rp.cell (i := i) (by rw [HLP.out]; exact hi)
  obtain ⟨X, hX⟩ : ∃ X, X = rd p (i : Int) := ⟨_, rfl⟩
  rw [← hX] at cq0
  have HX := Aside0.mk hX
  clear hX
  go_region
  have rb9 := RB13.out.putp i (bits .xor .u8 (rd p (i : Int)) (bits .or .u8 by_ 1))
  rw [← HX.out] at rb9
  obtain ⟨w12, hw8⟩ : ∃ w8, w8 = w11.setCell ⟨gp, i, none⟩ (.int .u8 (bits .xor .u8 X (bits .or .u8 by_ 1))) := ⟨_, rfl⟩
  rw [← hw8] at rb9 ⊢
  clear hw8
  rw [HX.out] at rb9
  have RB14 := Aside0.mk (show RB w w12.drew.drew gx gp gq cp cq q0 q1 q2 q3 q4 q5 q6 (q0 + 1) s1 s2 s3 s4 s5 s6 q0 q1 q2 q3 q4 q5 q6 (Pure.flip p i (bits .or .u8 by_ 1)) q from rb9.drew.drew)
  clear rb9 cq0 fq0 HX RB13
  go_wp2_with (first
    | (go_at_call 19; have hk := root_Pick.calls k (some ⟨gq, 0, none⟩) cq q (some ⟨gp, 0, none⟩) cp (Pure.flip p i (bits .or .u8 by_ 1)) (q0 + 1) s1 s2 s3 s4 s5 s6 0 w12.drew.drew (Kd.R_reads' RB14.out.rq).2.2 (Kd.R_reads' RB14.out.rq).2.1 (Kd.R_reads' RB14.out.rp).2.2 (Kd.R_reads' RB14.out.rp).2.1 HK3.out; rw [Pure.flip_len, HLP.out, HLQ.out] at hk; (with_reducible refine hk.mono ?_); clear hk; rintro e w13 ⟨rfl, hb⟩; have RB15 := Aside0.mk (RB.below RB14.out hb); clear hb; have xx0 := RB15.out.bx.c0; have xx1 := RB15.out.bx.c1; have xx2 := RB15.out.bx.c2; have xx3 := RB15.out.bx.c3; have xx4 := RB15.out.bx.c4; have xx5 := RB15.out.bx.c5; have xx6 := RB15.out.bx.c6; have xf0 := RB15.out.bx.fr 0; have xf1 := RB15.out.bx.fr 1; have xf2 := RB15.out.bx.fr 2; have xf3 := RB15.out.bx.fr 3; have xf4 := RB15.out.bx.fr 4; have xf5 := RB15.out.bx.fr 5; have xf6 := RB15.out.bx.fr 6; have rr0 := RB15.out.br.c0; have rr1 := RB15.out.br.c1; have rr2 := RB15.out.br.c2; have rr3 := RB15.out.br.c3; have rr4 := RB15.out.br.c4; have rr5 := RB15.out.br.c5; have rr6 := RB15.out.br.c6; have ss0 := RB15.out.bs.c0; have ss1 := RB15.out.bs.c1; have ss2 := RB15.out.bs.c2; have ss3 := RB15.out.bs.c3; have ss4 := RB15.out.bs.c4; have ss5 := RB15.out.bs.c5; have ss6 := RB15.out.bs.c6)
    | ((try (refine gate_guard (by rfl) ?_; dsimp only)); go_at_call 18; refine (stooklaw16_lives.calls k true _ HLV.out).mono ?_; rintro e w99 ⟨rfl, hb99⟩))
  go_ret
  exact ⟨rfl, below_step (RB15.out.putx (q0 + 1) s1 s2 s3 s4 s5 s6).be hb99⟩
set_option maxHeartbeats 8000000 in
set_option maxRecDepth 100000 in
theorem rootback_on (k : Nat) (q0 q1 q2 q3 q4 q5 q6 s0 s1 s2 s3 s4 s5 s6 at_ by_ pr ps : Int) (i : Nat) (p q : List Int) (w : World) (hP : root_Put.f k q0 q1 q2 q3 q4 q5 q6 = some (p, 0)) (hlp : p.length = 512) (hpr : root_Place.f q0 q1 q2 q3 q4 q5 q6 = some pr) (hG : root_Get.f k pr p = some (q0, q1, q2, q3, q4, q5, q6, 0)) (h1 : 1 ≤ q0) (h2 : q0 ≤ 4611686018427387904) (hLv : stooklaw16_lives.f k = some true) (hQ : root_Put.f k (q0 + 1) s1 s2 s3 s4 s5 s6 = some (q, 0)) (hlq : q.length = 512) (hps : root_Place.f (q0 + 1) s1 s2 s3 s4 s5 s6 = some ps) (hpq : ps ≠ pr) (hpar : (pr == 1) = true) (hi : i < 512) (h0 : at_ < 0) (h1n : -9223372036854775808 ≤ at_) (hm : -(at_ + 1).tmod 512 = (i : Int)) (hK1 : root_Pick.f k q p = some (q0 + 1, s1, s2, s3, s4, s5, s6, 0)) (hK2 : root_Pick.f k (Pure.flip q i (bits .or .u8 by_ 1)) p = some (q0, q1, q2, q3, q4, q5, q6, 0)) (hK3 : root_Pick.f k q (Pure.flip p i (bits .or .u8 by_ 1)) = some (q0 + 1, s1, s2, s3, s4, s5, s6, 0)) (hqq : Pure.flip (Pure.flip q i (bits .or .u8 by_ 1)) i (bits .or .u8 by_ 1) = q) :
    Calls Try.prog 6 #[.agg #[.int .u64 q0, .int .i64 q1, .int .i64 q2, .int .u64 q3, .int .u64 q4, .int .i64 q5, .int .i64 q6], .agg #[.int .u64 s0, .int .i64 s1, .int .i64 s2, .int .u64 s3, .int .u64 s4, .int .i64 s5, .int .i64 s6], .int .i64 at_, .int .u8 by_] w fun e w' => e = .returned (.bool true) ∧ Below w.heap.size w w' := by
  have HP := Aside0.mk hP
  have HPR := Aside0.mk hpr
  have HLP := Aside0.mk hlp
  have HG := Aside0.mk hG
  have HLV := Aside0.mk hLv
  have hne := fun W => ner_false W q0 q1 q2 q3 q4 q5 q6
  have h3 : 0 ≤ q0 + 1 := by omega
  have h4 : q0 + 1 < 18446744073709551616 := by omega
  clear hP hlp hG hLv hpr
  have HQ := Aside0.mk hQ
  have HLQ := Aside0.mk hlq
  have HPS := Aside0.mk hps
  have hpqb : (ps == pr) = false := beq_eq_false_iff_ne.mpr hpq
  clear hQ hlq hps hpq
  have HK1 := Aside0.mk hK1
  have HK2 := Aside0.mk hK2
  have HK3 := Aside0.mk hK3
  have HQQ := Aside0.mk hqq
  have hne2 := fun W => ner_false W (q0 + 1) s1 s2 s3 s4 s5 s6
  clear hK1 hK2 hK3 hqq
  have h2n : 0 ≤ -(at_ + 1) := by omega
  have h3n : -(at_ + 1) ≤ 9223372036854775807 := by omega
  go_enter Try.func6, Try.ntmps6
  go_wp2_with (first
    | (go_at_call 11; (with_reducible refine (root_Put.calls k q0 q1 q2 q3 q4 q5 q6 p 0 _ HP.out).mono ?_); rintro e w1 ⟨va, rfl, hoa, hb⟩; obtain ⟨gp, cp, ea, _, _, _⟩ := Kd.R_form hoa (by rw [HLP.out]; decide); subst ea; have hr0 : Rb ((w.alloc (.cells #[.int .u64 q0, .int .i64 q1, .int .i64 q2, .int .u64 q3, .int .u64 q4, .int .i64 q5, .int .i64 q6] 34)).alloc (.cells #[.int .u64 s0, .int .i64 s1, .int .i64 s2, .int .u64 s3, .int .u64 s4, .int .i64 s5, .int .i64 s6] 34)) w.heap.size q0 q1 q2 q3 q4 q5 q6 := blk_alloc (rootb_new w (.int .u64 q0) (.int .i64 q1) (.int .i64 q2) (.int .u64 q3) (.int .u64 q4) (.int .i64 q5) (.int .i64 q6)) _; have hs0 : Rb ((w.alloc (.cells #[.int .u64 q0, .int .i64 q1, .int .i64 q2, .int .u64 q3, .int .u64 q4, .int .i64 q5, .int .i64 q6] 34)).alloc (.cells #[.int .u64 s0, .int .i64 s1, .int .i64 s2, .int .u64 s3, .int .u64 s4, .int .i64 s5, .int .i64 s6] 34)) (w.heap.size + 1) s0 s1 s2 s3 s4 s5 s6 := (by have h := rootb_new (w.alloc (.cells #[.int .u64 q0, .int .i64 q1, .int .i64 q2, .int .u64 q3, .int .u64 q4, .int .i64 q5, .int .i64 q6] 34)) (.int .u64 s0) (.int .i64 s1) (.int .i64 s2) (.int .u64 s3) (.int .u64 s4) (.int .i64 s5) (.int .i64 s6); rwa [show (w.alloc (.cells #[.int .u64 q0, .int .i64 q1, .int .i64 q2, .int .u64 q3, .int .u64 q4, .int .i64 q5, .int .i64 q6] 34)).heap.size = w.heap.size + 1 from Array.size_push ..] at h); have H01 := Aside0.mk (below_step (below_alloc (below_alloc (Below.refl w.heap.size w) _) _) hb); have LP := Aside0.mk (show w.heap.size ≤ gp from by have h := Kd.R_base hoa gp rfl; rw [flat_two] at h; omega); have P1 := Aside0.mk (Rw.of (w0 := w) hoa (by rw [flat_two]; omega)); have R1 := Aside0.mk (Rootb.below hr0 hb); have S1 := Aside0.mk (Rootb.below hs0 hb); clear hoa hb hr0 hs0; have a0 := R1.out.c0; have a1 := R1.out.c1; have a2 := R1.out.c2; have a3 := R1.out.c3; have a4 := R1.out.c4; have a5 := R1.out.c5; have a6 := R1.out.c6)
    | (go_at_call 13; (with_reducible refine (root_Place.calls q0 q1 q2 q3 q4 q5 q6 pr w1 HPR.out).mono ?_); rintro e w2 ⟨rfl, hb⟩; have H02 := Aside0.mk (below_step H01.out hb); have P2 := Aside0.mk (Kd.R_below P1.out hb); have R2 := Aside0.mk (Rootb.below R1.out hb); have S2 := Aside0.mk (Rootb.below S1.out hb); clear hb)
    | (go_at_call 15; (with_reducible refine (root_Get.calls k pr (some ⟨gp, 0, none⟩) cp p q0 q1 q2 q3 q4 q5 q6 0 w2 (Kd.R_reads' P2.out).2.2 (Kd.R_reads' P2.out).2.1 HG.out).mono ?_); rintro e w3 ⟨rfl, hb⟩; have H03 := Aside0.mk (below_step H02.out hb); have P3 := Aside0.mk (Kd.R_below P2.out hb); have R3 := Aside0.mk (Rootb.below R2.out hb); have S3 := Aside0.mk (Rootb.below S2.out hb); clear hb; have hr3 : Rb (w3.alloc (.cells #[.int .u64 q0, .int .i64 q1, .int .i64 q2, .int .u64 q3, .int .u64 q4, .int .i64 q5, .int .i64 q6] 34)) w.heap.size q0 q1 q2 q3 q4 q5 q6 := blk_alloc R3.out _; have hs3 : Rb (w3.alloc (.cells #[.int .u64 q0, .int .i64 q1, .int .i64 q2, .int .u64 q3, .int .u64 q4, .int .i64 q5, .int .i64 q6] 34)) (w.heap.size + 1) s0 s1 s2 s3 s4 s5 s6 := blk_alloc S3.out _; have b0 := hr3.c0; have b1 := hr3.c1; have b2 := hr3.c2; have b3 := hr3.c3; have b4 := hr3.c4; have b5 := hr3.c5; have b6 := hr3.c6; have c0 := hs3.c0; have c1 := hs3.c1; have c2 := hs3.c2; have c3 := hs3.c3; have c4 := hs3.c4; have c5 := hs3.c5; have c6 := hs3.c6; have bf0 := hs3.fr 0; clear hr3 hs3)
    | (go_at_call 11; (with_reducible refine (root_Put.calls k (q0 + 1) s1 s2 s3 s4 s5 s6 q 0 _ HQ.out).mono ?_); rintro e w4 ⟨vb, rfl, hob, hb⟩; obtain ⟨gq, cq, eb, _, _, _⟩ := Kd.R_form hob (by rw [HLQ.out]; decide); subst eb; have RB4 := Aside0.mk (rb_start (n := q0 + 1) R3.out S3.out P3.out LP.out H03.out hb hob); clear hob hb))
  have zr0 := RB4.out.br.c0
  have zr1 := RB4.out.br.c1
  have zr2 := RB4.out.br.c2
  have zr3 := RB4.out.br.c3
  have zr4 := RB4.out.br.c4
  have zr5 := RB4.out.br.c5
  have zr6 := RB4.out.br.c6
  have zs0 := RB4.out.bs.c0
  have zs1 := RB4.out.bs.c1
  have zs2 := RB4.out.bs.c2
  have zs3 := RB4.out.bs.c3
  have zs4 := RB4.out.bs.c4
  have zs5 := RB4.out.bs.c5
  have zs6 := RB4.out.bs.c6
  go_region_held3 (fun w' => w'.cell? ⟨w.heap.size, 0, none⟩ = some (.int .u64 q0) ∧ w'.cell? ⟨w.heap.size, 1, none⟩ = some (.int .i64 q1) ∧ w'.cell? ⟨w.heap.size, 2, none⟩ = some (.int .i64 q2) ∧ w'.cell? ⟨w.heap.size, 3, none⟩ = some (.int .u64 q3) ∧ w'.cell? ⟨w.heap.size, 4, none⟩ = some (.int .u64 q4) ∧ w'.cell? ⟨w.heap.size, 5, none⟩ = some (.int .i64 q5) ∧ w'.cell? ⟨w.heap.size, 6, none⟩ = some (.int .i64 q6) ∧ w'.cell? ⟨w.heap.size + 1, 0, none⟩ = some (.int .u64 (q0 + 1)) ∧ w'.cell? ⟨w.heap.size + 1, 1, none⟩ = some (.int .i64 s1) ∧ w'.cell? ⟨w.heap.size + 1, 2, none⟩ = some (.int .i64 s2) ∧ w'.cell? ⟨w.heap.size + 1, 3, none⟩ = some (.int .u64 s3) ∧ w'.cell? ⟨w.heap.size + 1, 4, none⟩ = some (.int .u64 s4) ∧ w'.cell? ⟨w.heap.size + 1, 5, none⟩ = some (.int .i64 s5) ∧ w'.cell? ⟨w.heap.size + 1, 6, none⟩ = some (.int .i64 s6)) (first | go_keep | exact ⟨ya0, ya1, ya2, ya3, ya4, ya5, ya6, yb0, yb1, yb2, yb3, yb4, yb5, yb6⟩ | exact ⟨yc0, yc1, yc2, yc3, yc4, yc5, yc6, yd0, yd1, yd2, yd3, yd4, yd5, yd6⟩) (first | (go_at_call 13; (with_reducible refine (root_Place.calls (q0 + 1) s1 s2 s3 s4 s5 s6 ps _ HPS.out).mono ?_); rintro e wa ⟨rfl, hbx⟩; have RBa := Aside0.mk (RB.below (by first | exact RB4.out.drew | exact RBb.out) hbx); clear hbx; have ya0 := RBa.out.br.c0; have ya1 := RBa.out.br.c1; have ya2 := RBa.out.br.c2; have ya3 := RBa.out.br.c3; have ya4 := RBa.out.br.c4; have ya5 := RBa.out.br.c5; have ya6 := RBa.out.br.c6; have yb0 := RBa.out.bs.c0; have yb1 := RBa.out.bs.c1; have yb2 := RBa.out.bs.c2; have yb3 := RBa.out.bs.c3; have yb4 := RBa.out.bs.c4; have yb5 := RBa.out.bs.c5; have yb6 := RBa.out.bs.c6) | (go_at_call 13; (with_reducible refine (root_Place.calls q0 q1 q2 q3 q4 q5 q6 pr _ HPR.out).mono ?_); rintro e wb ⟨rfl, hbx⟩; have RBb := Aside0.mk (RB.below (by first | exact RB4.out.drew | exact RBa.out) hbx); clear hbx; have yc0 := RBb.out.br.c0; have yc1 := RBb.out.br.c1; have yc2 := RBb.out.br.c2; have yc3 := RBb.out.br.c3; have yc4 := RBb.out.br.c4; have yc5 := RBb.out.br.c5; have yc6 := RBb.out.br.c6; have yd0 := RBb.out.bs.c0; have yd1 := RBb.out.bs.c1; have yd2 := RBb.out.bs.c2; have yd3 := RBb.out.bs.c3; have yd4 := RBb.out.bs.c4; have yd5 := RBb.out.bs.c5; have yd6 := RBb.out.bs.c6))
  clear ya0 ya1 ya2 ya3 ya4 ya5 ya6 yb0 yb1 yb2 yb3 yb4 yb5 yb6 yc0 yc1 yc2 yc3 yc4 yc5 yc6 yd0 yd1 yd2 yd3 yd4 yd5 yd6 zr0 zr1 zr2 zr3 zr4 zr5 zr6 zs0 zs1 zs2 zs3 zs4 zs5 zs6
  have RB5 := RBb
  clear RBa RBb RB4
  obtain ⟨gx, hgx⟩ : ∃ gx, gx = w3.heap.size := ⟨_, rfl⟩
  rw [← hgx] at RB5 ⊢
  clear hgx
  rw [HLP.out, HLQ.out]
  have ne1 := RB5.out.nrx
  have ne2 := RB5.out.nsx
  go_wp2_with (first
    | (go_at_call 13; (with_reducible refine (root_Place.calls q0 q1 q2 q3 q4 q5 q6 pr wb HPR.out).mono ?_); rintro e w5 ⟨rfl, hb⟩; have RB6 := Aside0.mk (RB.below RB5.out hb); clear hb)
    | (go_at_call 19; have hk := root_Pick.calls k (some ⟨gq, 0, none⟩) cq q (some ⟨gp, 0, none⟩) cp p (q0 + 1) s1 s2 s3 s4 s5 s6 0 w5 (Kd.R_reads' RB6.out.rq).2.2 (Kd.R_reads' RB6.out.rq).2.1 (Kd.R_reads' RB6.out.rp).2.2 (Kd.R_reads' RB6.out.rp).2.1 HK1.out; rw [HLP.out, HLQ.out] at hk; (with_reducible refine hk.mono ?_); clear hk; rintro e w6 ⟨rfl, hb⟩; have RB7 := Aside0.mk (RB.below RB6.out hb); clear hb; have xx0 := RB7.out.bx.c0; have xx1 := RB7.out.bx.c1; have xx2 := RB7.out.bx.c2; have xx3 := RB7.out.bx.c3; have xx4 := RB7.out.bx.c4; have xx5 := RB7.out.bx.c5; have xx6 := RB7.out.bx.c6; have xf0 := RB7.out.bx.fr 0; have xf1 := RB7.out.bx.fr 1; have xf2 := RB7.out.bx.fr 2; have xf3 := RB7.out.bx.fr 3; have xf4 := RB7.out.bx.fr 4; have xf5 := RB7.out.bx.fr 5; have xf6 := RB7.out.bx.fr 6; have rr0 := RB7.out.br.c0; have rr1 := RB7.out.br.c1; have rr2 := RB7.out.br.c2; have rr3 := RB7.out.br.c3; have rr4 := RB7.out.br.c4; have rr5 := RB7.out.br.c5; have rr6 := RB7.out.br.c6; have ss0 := RB7.out.bs.c0; have ss1 := RB7.out.bs.c1; have ss2 := RB7.out.bs.c2; have ss3 := RB7.out.bs.c3; have ss4 := RB7.out.bs.c4; have ss5 := RB7.out.bs.c5; have ss6 := RB7.out.bs.c6))
  have rb8 := RB7.out.putx (q0 + 1) s1 s2 s3 s4 s5 s6
  obtain ⟨w7, hw7⟩ : ∃ w7, w7 = (((((((w6.setCell ⟨gx, 0, none⟩ (.int .u64 (q0 + 1))).setCell ⟨gx, 1, none⟩ (.int .i64 s1)).setCell ⟨gx, 2, none⟩ (.int .i64 s2)).setCell ⟨gx, 3, none⟩ (.int .u64 s3)).setCell ⟨gx, 4, none⟩ (.int .u64 s4)).setCell ⟨gx, 5, none⟩ (.int .i64 s5)).setCell ⟨gx, 6, none⟩ (.int .i64 s6)) := ⟨_, rfl⟩
  rw [← hw7] at rb8 ⊢
  clear hw7
  have RB8 := Aside0.mk rb8
  clear rb8 RB7 RB6 RB5
  have i0 : (0 : Int) ≤ (i : Int) := by omega
  have i1 : (i : Int) < 512 := by omega
  obtain ⟨cq0, fq0⟩ := RB8.out.rq.cell (i := i) (by rw [HLQ.out]; exact hi)
  obtain ⟨X, hX⟩ : ∃ X, X = rd q (i : Int) := ⟨_, rfl⟩
  rw [← hX] at cq0
  have HX := Aside0.mk hX
  clear hX
  go_region
  have rb9 := RB8.out.putq i (bits .xor .u8 (rd q (i : Int)) (bits .or .u8 by_ 1))
  rw [← HX.out] at rb9
  obtain ⟨w8, hw8⟩ : ∃ w8, w8 = w7.setCell ⟨gq, i, none⟩ (.int .u8 (bits .xor .u8 X (bits .or .u8 by_ 1))) := ⟨_, rfl⟩
  rw [← hw8] at rb9 ⊢
  clear hw8
  rw [HX.out] at rb9
  have RB9 := Aside0.mk (show RB w w8.drew gx gp gq cp cq q0 q1 q2 q3 q4 q5 q6 (q0 + 1) s1 s2 s3 s4 s5 s6 (q0 + 1) s1 s2 s3 s4 s5 s6 p (Pure.flip q i (bits .or .u8 by_ 1)) from rb9.drew)
  clear rb9 cq0 fq0 HX RB8
  go_wp2_with (first
    | (go_at_call 19; have hk := root_Pick.calls k (some ⟨gq, 0, none⟩) cq (Pure.flip q i (bits .or .u8 by_ 1)) (some ⟨gp, 0, none⟩) cp p q0 q1 q2 q3 q4 q5 q6 0 w8.drew (Kd.R_reads' RB9.out.rq).2.2 (Kd.R_reads' RB9.out.rq).2.1 (Kd.R_reads' RB9.out.rp).2.2 (Kd.R_reads' RB9.out.rp).2.1 HK2.out; rw [Pure.flip_len, HLP.out, HLQ.out] at hk; (with_reducible refine hk.mono ?_); clear hk; rintro e w9 ⟨rfl, hb⟩; have RB10 := Aside0.mk (RB.below RB9.out hb); clear hb; have xx0 := RB10.out.bx.c0; have xx1 := RB10.out.bx.c1; have xx2 := RB10.out.bx.c2; have xx3 := RB10.out.bx.c3; have xx4 := RB10.out.bx.c4; have xx5 := RB10.out.bx.c5; have xx6 := RB10.out.bx.c6; have xf0 := RB10.out.bx.fr 0; have xf1 := RB10.out.bx.fr 1; have xf2 := RB10.out.bx.fr 2; have xf3 := RB10.out.bx.fr 3; have xf4 := RB10.out.bx.fr 4; have xf5 := RB10.out.bx.fr 5; have xf6 := RB10.out.bx.fr 6; have rr0 := RB10.out.br.c0; have rr1 := RB10.out.br.c1; have rr2 := RB10.out.br.c2; have rr3 := RB10.out.br.c3; have rr4 := RB10.out.br.c4; have rr5 := RB10.out.br.c5; have rr6 := RB10.out.br.c6; have ss0 := RB10.out.bs.c0; have ss1 := RB10.out.bs.c1; have ss2 := RB10.out.bs.c2; have ss3 := RB10.out.bs.c3; have ss4 := RB10.out.bs.c4; have ss5 := RB10.out.bs.c5; have ss6 := RB10.out.bs.c6))
  have rb8 := RB10.out.putx q0 q1 q2 q3 q4 q5 q6
  obtain ⟨w10, hw7⟩ : ∃ w7, w7 = (((((((w9.setCell ⟨gx, 0, none⟩ (.int .u64 q0)).setCell ⟨gx, 1, none⟩ (.int .i64 q1)).setCell ⟨gx, 2, none⟩ (.int .i64 q2)).setCell ⟨gx, 3, none⟩ (.int .u64 q3)).setCell ⟨gx, 4, none⟩ (.int .u64 q4)).setCell ⟨gx, 5, none⟩ (.int .i64 q5)).setCell ⟨gx, 6, none⟩ (.int .i64 q6)) := ⟨_, rfl⟩
  rw [← hw7] at rb8 ⊢
  clear hw7
  have RB11 := Aside0.mk rb8
  clear rb8 RB10
  obtain ⟨cq0, fq0⟩ := RB11.out.rq.cell (i := i) (by rw [Pure.flip_len, HLQ.out]; exact hi)
  obtain ⟨X, hX⟩ : ∃ X, X = rd (Pure.flip q i (bits .or .u8 by_ 1)) (i : Int) := ⟨_, rfl⟩
  rw [← hX] at cq0
  have HX := Aside0.mk hX
  clear hX
  go_region
  have rb9 := RB11.out.putq i (bits .xor .u8 (rd (Pure.flip q i (bits .or .u8 by_ 1)) (i : Int)) (bits .or .u8 by_ 1))
  rw [← HX.out] at rb9
  obtain ⟨w11, hw8⟩ : ∃ w8, w8 = w10.setCell ⟨gq, i, none⟩ (.int .u8 (bits .xor .u8 X (bits .or .u8 by_ 1))) := ⟨_, rfl⟩
  rw [← hw8] at rb9 ⊢
  clear hw8
  rw [HX.out] at rb9
  have RB12 := Aside0.mk (show RB w w11 gx gp gq cp cq q0 q1 q2 q3 q4 q5 q6 (q0 + 1) s1 s2 s3 s4 s5 s6 q0 q1 q2 q3 q4 q5 q6 p (Pure.flip (Pure.flip q i (bits .or .u8 by_ 1)) i (bits .or .u8 by_ 1)) from rb9)
  clear rb9 cq0 fq0 HX RB11
  have rb13 := RB12.out
  rw [HQQ.out] at rb13
  have RB13 := Aside0.mk rb13
  clear rb13 RB12
  go_wp2
  obtain ⟨cq0, fq0⟩ := RB13.out.rp.cell (i := i) (by rw [HLP.out]; exact hi)
  obtain ⟨X, hX⟩ : ∃ X, X = rd p (i : Int) := ⟨_, rfl⟩
  rw [← hX] at cq0
  have HX := Aside0.mk hX
  clear hX
  go_region
  have rb9 := RB13.out.putp i (bits .xor .u8 (rd p (i : Int)) (bits .or .u8 by_ 1))
  rw [← HX.out] at rb9
  obtain ⟨w12, hw8⟩ : ∃ w8, w8 = w11.setCell ⟨gp, i, none⟩ (.int .u8 (bits .xor .u8 X (bits .or .u8 by_ 1))) := ⟨_, rfl⟩
  rw [← hw8] at rb9 ⊢
  clear hw8
  rw [HX.out] at rb9
  have RB14 := Aside0.mk (show RB w w12.drew.drew gx gp gq cp cq q0 q1 q2 q3 q4 q5 q6 (q0 + 1) s1 s2 s3 s4 s5 s6 q0 q1 q2 q3 q4 q5 q6 (Pure.flip p i (bits .or .u8 by_ 1)) q from rb9.drew.drew)
  clear rb9 cq0 fq0 HX RB13
  go_wp2_with (first
    | (go_at_call 19; have hk := root_Pick.calls k (some ⟨gq, 0, none⟩) cq q (some ⟨gp, 0, none⟩) cp (Pure.flip p i (bits .or .u8 by_ 1)) (q0 + 1) s1 s2 s3 s4 s5 s6 0 w12.drew.drew (Kd.R_reads' RB14.out.rq).2.2 (Kd.R_reads' RB14.out.rq).2.1 (Kd.R_reads' RB14.out.rp).2.2 (Kd.R_reads' RB14.out.rp).2.1 HK3.out; rw [Pure.flip_len, HLP.out, HLQ.out] at hk; (with_reducible refine hk.mono ?_); clear hk; rintro e w13 ⟨rfl, hb⟩; have RB15 := Aside0.mk (RB.below RB14.out hb); clear hb; have xx0 := RB15.out.bx.c0; have xx1 := RB15.out.bx.c1; have xx2 := RB15.out.bx.c2; have xx3 := RB15.out.bx.c3; have xx4 := RB15.out.bx.c4; have xx5 := RB15.out.bx.c5; have xx6 := RB15.out.bx.c6; have xf0 := RB15.out.bx.fr 0; have xf1 := RB15.out.bx.fr 1; have xf2 := RB15.out.bx.fr 2; have xf3 := RB15.out.bx.fr 3; have xf4 := RB15.out.bx.fr 4; have xf5 := RB15.out.bx.fr 5; have xf6 := RB15.out.bx.fr 6; have rr0 := RB15.out.br.c0; have rr1 := RB15.out.br.c1; have rr2 := RB15.out.br.c2; have rr3 := RB15.out.br.c3; have rr4 := RB15.out.br.c4; have rr5 := RB15.out.br.c5; have rr6 := RB15.out.br.c6; have ss0 := RB15.out.bs.c0; have ss1 := RB15.out.bs.c1; have ss2 := RB15.out.bs.c2; have ss3 := RB15.out.bs.c3; have ss4 := RB15.out.bs.c4; have ss5 := RB15.out.bs.c5; have ss6 := RB15.out.bs.c6)
    | ((try (refine gate_guard (by rfl) ?_; dsimp only)); go_at_call 18; refine (stooklaw16_lives.calls k true _ HLV.out).mono ?_; rintro e w99 ⟨rfl, hb99⟩))
  go_ret
  exact ⟨rfl, below_step (RB15.out.putx (q0 + 1) s1 s2 s3 s4 s5 s6).be hb99⟩
end Go.Proofs.Ytkecgmoaojklbaa.PAll
