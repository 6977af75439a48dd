/- root.Get, walked by hand: it has closures, which the print does not cover. -/
import Derived.Test.YtkecgmoaojklbaaRootClo
import Derived.Laws.EntriesVeiled
import Derived.Test.YtkecgmoaojklbaaPAllx8
import Derived.Test.YtkecgmoaojklbaaPAllx4
import Derived.Test.YtkecgmoaojklbaaPAllx3
import Derived.Test.YtkecgmoaojklbaaPAllx14
set_option linter.unusedVariables false
set_option linter.unusedSimpArgs false
namespace Go.Proofs.Ytkecgmoaojklbaa.PAll
open Go.RowKit Go.Proofs.YtkecgmoaojklbaaVW.PrintWords Go.Proofs.YtkecgmoaojklbaaVW.PrintLast Go.Proofs.YtkecgmoaojklbaaVW.PrintMore
/-- The seven numbers, the place behind them, and whether one was bad. -/
def root_nums (k : Nat) (l : List Int) (b : Bool) : Option (Int × Int × Int × Int × Int × Int × Int × Int × Bool) :=
  (leb_Get.f k l 0).bind fun x0 => (leb_Get.f k l x0.2.1).bind fun x1 => (leb_Get.f k l x1.2.1).bind fun x2 => (leb_Get.f k l x2.2.1).bind fun x3 => (leb_Get.f k l x3.2.1).bind fun x4 => (leb_Get.f k l x4.2.1).bind fun x5 => (leb_Get.f k l x5.2.1).bind fun x6 =>
    some (x0.1, low32 x1.1, low32 x2.1, x3.1, x4.1, low32 x5.1, low32 x6.1, x6.2.1, (((((((((((b || x0.2.2 != 0) || x1.2.2 != 0) || decide (x1.1 > 2147483648)) || x2.2.2 != 0) || decide (x2.1 > 2147483648)) || x3.2.2 != 0) || x4.2.2 != 0) || x5.2.2 != 0) || decide (x5.1 > 2147483648)) || x6.2.2 != 0) || decide (x6.1 > 2147483648)))
/-- What root.Get makes of a place and bytes. -/
def root_Get.f (k : Nat) (a0 : Int) (l1 : List Int) : Option (Int × Int × Int × Int × Int × Int × Int × Int) :=
  if a0 = 0 ∨ a0 = 1 then (page_Get.f k a0 l1).bind fun p => (if p.2.2 = 0 then (root_nums k p.2.1 (p.1 != 1)).bind fun x => (if x.2.2.2.2.2.2.2.2 = true then (some (0, 0, 0, 0, 0, 0, 0, 5)) else (if x.2.2.2.2.2.2.2.1 = (p.2.1.length : Int) then (root_may.f k x.1 x.2.1 x.2.2.1 x.2.2.2.1 x.2.2.2.2.1 x.2.2.2.2.2.1 x.2.2.2.2.2.2.1).bind fun m => (if m = true then (if wrap64 (Int.tmod x.1 2) = a0 then (some (x.1, x.2.1, x.2.2.1, x.2.2.2.1, x.2.2.2.2.1, x.2.2.2.2.2.1, x.2.2.2.2.2.2.1, 0)) else (some (0, 0, 0, 0, 0, 0, 0, 5))) else (some (0, 0, 0, 0, 0, 0, 0, 5))) else (some (0, 0, 0, 0, 0, 0, 0, 5)))) else (some (0, 0, 0, 0, 0, 0, 0, p.2.2))) else (some (0, 0, 0, 0, 0, 0, 0, 2))
theorem root_nums.mono : ∀ a0 a1 k, LeO (root_nums k a0 a1) (root_nums (k + 1) a0 a1) := by
  intro a0 a1 k
  unfold root_nums
  repeat' first
      | (with_reducible exact leb_Get.mono _ _ _)
      | (with_reducible exact LeO.refl _)
      | (with_reducible exact LeO.none _)
      | (with_reducible refine LeO.ite ?_ ?_)
      | (with_reducible refine LeO.bind ?_ (fun _ => ?_))
theorem root_Get.mono : ∀ a0 a1 k, LeO (root_Get.f k a0 a1) (root_Get.f (k + 1) a0 a1) := by
  intro a0 a1 k
  unfold root_Get.f
  repeat' first
      | (with_reducible exact page_Get.mono _ _ _)
      | (with_reducible exact root_nums.mono _ _ _)
      | (with_reducible exact root_may.mono _ _ _ _ _ _ _ _)
      | (with_reducible exact LeO.refl _)
      | (with_reducible exact LeO.none _)
      | (with_reducible refine LeO.ite ?_ ?_)
      | (with_reducible refine LeO.bind ?_ (fun _ => ?_))
theorem root_nums.parts {k : Nat} {l : List Int} {b : Bool} {r1 r2 r3 r4 r5 r6 r7 r8 : Int} {r9 : Bool} (h : root_nums k l b = some (r1, r2, r3, r4, r5, r6, r7, r8, r9)) : ∃ (n0 n1 n2 n3 n4 n5 n6 t0 t1 t2 t3 t4 t5 e0 e1 e2 e3 e4 e5 e6 : Int) (b1 b2 b3 b4 b5 b6 : Bool),
    leb_Get.f k l 0 = some (n0, t0, e0) ∧ leb_Get.f k l t0 = some (n1, t1, e1) ∧ leb_Get.f k l t1 = some (n2, t2, e2) ∧ leb_Get.f k l t2 = some (n3, t3, e3) ∧ leb_Get.f k l t3 = some (n4, t4, e4) ∧ leb_Get.f k l t4 = some (n5, t5, e5) ∧ leb_Get.f k l t5 = some (n6, r8, e6) ∧
    (b || e0 != 0) = b1 ∧ ((b1 || e1 != 0) || decide (n1 > 2147483648)) = b2 ∧ ((b2 || e2 != 0) || decide (n2 > 2147483648)) = b3 ∧ (b3 || e3 != 0) = b4 ∧ (b4 || e4 != 0) = b5 ∧ ((b5 || e5 != 0) || decide (n5 > 2147483648)) = b6 ∧ ((b6 || e6 != 0) || decide (n6 > 2147483648)) = r9 ∧
    n0 = r1 ∧ low32 n1 = r2 ∧ low32 n2 = r3 ∧ n3 = r4 ∧ n4 = r5 ∧ low32 n5 = r6 ∧ low32 n6 = r7 := by
  unfold root_nums at h
  obtain ⟨⟨n0, t0, e0⟩, h0, h⟩ := Option.bind_eq_some_iff.mp h
  obtain ⟨⟨n1, t1, e1⟩, h1, h⟩ := Option.bind_eq_some_iff.mp h
  obtain ⟨⟨n2, t2, e2⟩, h2, h⟩ := Option.bind_eq_some_iff.mp h
  obtain ⟨⟨n3, t3, e3⟩, h3, h⟩ := Option.bind_eq_some_iff.mp h
  obtain ⟨⟨n4, t4, e4⟩, h4, h⟩ := Option.bind_eq_some_iff.mp h
  obtain ⟨⟨n5, t5, e5⟩, h5, h⟩ := Option.bind_eq_some_iff.mp h
  obtain ⟨⟨n6, t6, e6⟩, h6, h⟩ := Option.bind_eq_some_iff.mp h
  simp only [Option.some.injEq, Prod.mk.injEq] at h
  obtain ⟨rfl, rfl, rfl, rfl, rfl, rfl, rfl, rfl, q9⟩ := h
  exact ⟨n0, n1, n2, n3, n4, n5, n6, t0, t1, t2, t3, t4, t5, e0, e1, e2, e3, e4, e5, e6, _, _, _, _, _, _, h0, h1, h2, h3, h4, h5, h6, rfl, rfl, rfl, rfl, rfl, rfl, q9, rfl, rfl, rfl, rfl, rfl, rfl, rfl⟩
set_option maxHeartbeats 8000000 in
set_option maxRecDepth 100000 in
theorem root_Get.noplace (k : Nat) (a0 : Int) (A1 : Option Addr) (c1 : Nat) (l1 : List Int) (h0 : a0 ≠ 0) (h1 : a0 ≠ 1) (w : World) (hr1 : Kd.C (Kd.int .u8) w A1 l1.length l1) (hc1 : l1.length ≤ c1) :
    Calls Try.prog 15 #[.int .i64 a0, .slice A1 l1.length c1] w fun e w' => e = .returned (.tuple #[.agg #[.int .u64 0, .int .i64 0, .int .i64 0, .int .u64 0, .int .u64 0, .int .i64 0, .int .i64 0], .int .i64 2]) ∧ Below w.heap.size w w' := by
  have HR1 := Aside0.mk hr1
  clear hr1 hc1
  have q1 : (a0 != 0) = true := bne_iff_ne.mpr h0
  have q2 : (a0 != 1) = true := bne_iff_ne.mpr h1
  clear h0 h1
  have hq := rootb_new w (.int .u64 0) (.int .i64 0) (.int .i64 0) (.int .u64 0) (.int .u64 0) (.int .i64 0) (.int .i64 0)
  have z0 := hq.c0
  have z1 := hq.c1
  have z2 := hq.c2
  have z3 := hq.c3
  have z4 := hq.c4
  have z5 := hq.c5
  have z6 := hq.c6
  have zf0 := hq.fr 0
  have zf1 := hq.fr 1
  have zf2 := hq.fr 2
  have zf3 := hq.fr 3
  have zf4 := hq.fr 4
  have zf5 := hq.fr 5
  have zf6 := hq.fr 6
  go_enter Try.func15, Try.ntmps15
  go_wp2
  refine bodyPost_ret (results_ct rfl _ _ w.heap.size 34 #[.int .u64 0, .int .i64 0, .int .i64 0, .int .u64 0, .int .u64 0, .int .i64 0, .int .i64 0] (0, 0) _ rfl (rootb_new w (.int .u64 0) (.int .i64 0) (.int .i64 0) (.int .u64 0) (.int .u64 0) (.int .i64 0) (.int .i64 0)) Try.underlying34 rfl root_size) rfl ?_
  exact ⟨rfl, below_alloc (Below.refl _ _) _⟩
set_option maxHeartbeats 8000000 in
set_option maxRecDepth 100000 in
theorem root_Get.nopage_zero (k : Nat) (a0 : Int) (A1 : Option Addr) (c1 : Nat) (l1 : List Int) (p1 : Int) (p2 : List Int) (p3 : Int) (h0 : a0 = 0) (hp : page_Get.f k a0 l1 = some (p1, p2, p3)) (hp3 : p3 ≠ 0) (w : World) (hr1 : Kd.C (Kd.int .u8) w A1 l1.length l1) (hc1 : l1.length ≤ c1) :
    Calls Try.prog 15 #[.int .i64 a0, .slice A1 l1.length c1] w fun e w' => e = .returned (.tuple #[.agg #[.int .u64 0, .int .i64 0, .int .i64 0, .int .u64 0, .int .u64 0, .int .i64 0, .int .i64 0], .int .i64 p3]) ∧ Below w.heap.size w w' := by
  have HR1 := Aside0.mk hr1
  have HC1 := Aside0.mk hc1
  have HP := Aside0.mk hp
  have hp3b : (p3 != 0) = true := bne_iff_ne.mpr hp3
  clear hr1 hc1 hp hp3
  have q1 : (a0 != 0) = false := bne_eq_false_iff_eq.mpr h0
  clear h0
  go_enter Try.func15, Try.ntmps15
  go_wp2_with (first | (go_at_call 9; (with_reducible refine (page_Get.calls k a0 A1 c1 l1 p1 p2 p3 _ (Kd.C_alloc HR1.out _) HC1.out HP.out).mono ?_); rintro e w2 ⟨v, rfl, ho, _, hb⟩; obtain ⟨A2, c2, ev⟩ := Kd.R_slice ho; subst ev; have H02 := Aside0.mk (below_alloc (below_step (below_alloc (Below.refl _ _) _) hb) (.cells #[.slice A2 p2.length c2] 22)); have H4 := Aside0.mk (show Rootb (w2.alloc (.cells #[.slice A2 p2.length c2] 22)) w.heap.size (.int .u64 0) (.int .i64 0) (.int .i64 0) (.int .u64 0) (.int .u64 0) (.int .i64 0) (.int .i64 0) from blk_alloc ((rootb_new w (.int .u64 0) (.int .i64 0) (.int .i64 0) (.int .u64 0) (.int .u64 0) (.int .i64 0) (.int .i64 0)).below hb) _); clear ho hb; have zc0 := H4.out.c0; have zc1 := H4.out.c1; have zc2 := H4.out.c2; have zc3 := H4.out.c3; have zc4 := H4.out.c4; have zc5 := H4.out.c5; have zc6 := H4.out.c6; have zf0 := H4.out.fr 0; have zf1 := H4.out.fr 1; have zf2 := H4.out.fr 2; have zf3 := H4.out.fr 3; have zf4 := H4.out.fr 4; have zf5 := H4.out.fr 5; have zf6 := H4.out.fr 6))
  refine bodyPost_ret (results_ct rfl _ _ w.heap.size 34 #[.int .u64 0, .int .i64 0, .int .i64 0, .int .u64 0, .int .u64 0, .int .i64 0, .int .i64 0] (0, 0) _ rfl (H4.out.put (.int .u64 0) (.int .i64 0) (.int .i64 0) (.int .u64 0) (.int .u64 0) (.int .i64 0) (.int .i64 0)) Try.underlying34 rfl root_size) rfl ?_
  exact ⟨rfl, below_put7 H02.out (Nat.le_refl _) _ _ _ _ _ _ _⟩
set_option maxHeartbeats 8000000 in
set_option maxRecDepth 100000 in
theorem root_Get.nopage_one (k : Nat) (a0 : Int) (A1 : Option Addr) (c1 : Nat) (l1 : List Int) (p1 : Int) (p2 : List Int) (p3 : Int) (h0 : a0 = 1) (hp : page_Get.f k a0 l1 = some (p1, p2, p3)) (hp3 : p3 ≠ 0) (w : World) (hr1 : Kd.C (Kd.int .u8) w A1 l1.length l1) (hc1 : l1.length ≤ c1) :
    Calls Try.prog 15 #[.int .i64 a0, .slice A1 l1.length c1] w fun e w' => e = .returned (.tuple #[.agg #[.int .u64 0, .int .i64 0, .int .i64 0, .int .u64 0, .int .u64 0, .int .i64 0, .int .i64 0], .int .i64 p3]) ∧ Below w.heap.size w w' := by
  have HR1 := Aside0.mk hr1
  have HC1 := Aside0.mk hc1
  have HP := Aside0.mk hp
  have hp3b : (p3 != 0) = true := bne_iff_ne.mpr hp3
  clear hr1 hc1 hp hp3
  have q1 : (a0 != 0) = true := bne_iff_ne.mpr (by omega)
  have q2 : (a0 != 1) = false := bne_eq_false_iff_eq.mpr h0
  clear h0
  go_enter Try.func15, Try.ntmps15
  go_wp2_with (first | (go_at_call 9; (with_reducible refine (page_Get.calls k a0 A1 c1 l1 p1 p2 p3 _ (Kd.C_alloc HR1.out _) HC1.out HP.out).mono ?_); rintro e w2 ⟨v, rfl, ho, _, hb⟩; obtain ⟨A2, c2, ev⟩ := Kd.R_slice ho; subst ev; have H02 := Aside0.mk (below_alloc (below_step (below_alloc (Below.refl _ _) _) hb) (.cells #[.slice A2 p2.length c2] 22)); have H4 := Aside0.mk (show Rootb (w2.alloc (.cells #[.slice A2 p2.length c2] 22)) w.heap.size (.int .u64 0) (.int .i64 0) (.int .i64 0) (.int .u64 0) (.int .u64 0) (.int .i64 0) (.int .i64 0) from blk_alloc ((rootb_new w (.int .u64 0) (.int .i64 0) (.int .i64 0) (.int .u64 0) (.int .u64 0) (.int .i64 0) (.int .i64 0)).below hb) _); clear ho hb; have zc0 := H4.out.c0; have zc1 := H4.out.c1; have zc2 := H4.out.c2; have zc3 := H4.out.c3; have zc4 := H4.out.c4; have zc5 := H4.out.c5; have zc6 := H4.out.c6; have zf0 := H4.out.fr 0; have zf1 := H4.out.fr 1; have zf2 := H4.out.fr 2; have zf3 := H4.out.fr 3; have zf4 := H4.out.fr 4; have zf5 := H4.out.fr 5; have zf6 := H4.out.fr 6))
  refine bodyPost_ret (results_ct rfl _ _ w.heap.size 34 #[.int .u64 0, .int .i64 0, .int .i64 0, .int .u64 0, .int .u64 0, .int .i64 0, .int .i64 0] (0, 0) _ rfl (H4.out.put (.int .u64 0) (.int .i64 0) (.int .i64 0) (.int .u64 0) (.int .u64 0) (.int .i64 0) (.int .i64 0)) Try.underlying34 rfl root_size) rfl ?_
  exact ⟨rfl, below_put7 H02.out (Nat.le_refl _) _ _ _ _ _ _ _⟩
set_option maxHeartbeats 8000000 in
set_option maxRecDepth 100000 in
theorem root_Get.bad_zero (k : Nat) (a0 : Int) (A1 : Option Addr) (c1 : Nat) (l1 : List Int) (p1 : Int) (p2 : List Int) (n0 n1 n2 n3 n4 n5 n6 t0 t1 t2 t3 t4 t5 t6 e0 e1 e2 e3 e4 e5 e6 : Int) (b1 b2 b3 b4 b5 b6 b7 : Bool) (h0 : a0 = 0) (hb7 : b7 = true) (hp : page_Get.f k a0 l1 = some (p1, p2, 0)) (x0 : leb_Get.f k p2 0 = some (n0, t0, e0)) (x1 : leb_Get.f k p2 t0 = some (n1, t1, e1)) (x2 : leb_Get.f k p2 t1 = some (n2, t2, e2)) (x3 : leb_Get.f k p2 t2 = some (n3, t3, e3)) (x4 : leb_Get.f k p2 t3 = some (n4, t4, e4)) (x5 : leb_Get.f k p2 t4 = some (n5, t5, e5)) (x6 : leb_Get.f k p2 t5 = some (n6, t6, e6)) (y0 : ((p1 != 1) || e0 != 0) = b1) (y1 : ((b1 || e1 != 0) || decide (n1 > 2147483648)) = b2) (y2 : ((b2 || e2 != 0) || decide (n2 > 2147483648)) = b3) (y3 : (b3 || e3 != 0) = b4) (y4 : (b4 || e4 != 0) = b5) (y5 : ((b5 || e5 != 0) || decide (n5 > 2147483648)) = b6) (y6 : ((b6 || e6 != 0) || decide (n6 > 2147483648)) = b7) (w : World) (hr1 : Kd.C (Kd.int .u8) w A1 l1.length l1) (hc1 : l1.length ≤ c1) :
    Calls Try.prog 15 #[.int .i64 a0, .slice A1 l1.length c1] w fun e w' => e = .returned (.tuple #[.agg #[.int .u64 0, .int .i64 0, .int .i64 0, .int .u64 0, .int .u64 0, .int .i64 0, .int .i64 0], .int .i64 5]) ∧ Below w.heap.size w w' := by
  have HR1 := Aside0.mk hr1
  have HC1 := Aside0.mk hc1
  have HP := Aside0.mk hp
  have X0 := Aside0.mk x0
  have X1 := Aside0.mk x1
  have X2 := Aside0.mk x2
  have X3 := Aside0.mk x3
  have X4 := Aside0.mk x4
  have X5 := Aside0.mk x5
  have X6 := Aside0.mk x6
  have Y0 := Aside0.mk y0
  have Y1 := Aside0.mk y1
  have Y2 := Aside0.mk y2
  have Y3 := Aside0.mk y3
  have Y4 := Aside0.mk y4
  have Y5 := Aside0.mk y5
  have Y6 := Aside0.mk y6
  clear hr1 hc1 hp x0 y0 x1 y1 x2 y2 x3 y3 x4 y4 x5 y5 x6 y6
  have q1 : (a0 != 0) = false := bne_eq_false_iff_eq.mpr h0
  clear h0
  subst hb7
  go_enter Try.func15, Try.ntmps15
  go_wp2_with (first
    | (go_at_call 9; (with_reducible refine (page_Get.calls k a0 A1 c1 l1 p1 p2 0 _ (Kd.C_alloc HR1.out _) HC1.out HP.out).mono ?_); rintro e w2 ⟨v, rfl, ho, _, hb⟩; obtain ⟨A2, c2, ev⟩ := Kd.R_slice ho; subst ev; have hro := Kd.R_lower ho (below_alloc (Below.refl w.heap.size w) (.cells #[.int .u64 0, .int .i64 0, .int .i64 0, .int .u64 0, .int .u64 0, .int .i64 0, .int .i64 0] 34)).size; have S0 := Aside0.mk (clo_start (w := w) (w2 := w2) w.heap.size A2 c2 p2 (p1 != 1) (below_step (below_alloc (Below.refl _ _) _) hb) hro ((rootb_new w (.int .u64 0) (.int .i64 0) (.int .i64 0) (.int .u64 0) (.int .u64 0) (.int .i64 0) (.int .i64 0)).below hb) (Nat.le_refl _)); clear ho hb hro)
    | (go_at_call 29; (with_reducible refine (number2 k n0 t0 e0 b1 S0.out X0.out Y0.out).mono ?_); rintro e v0 ⟨rfl, hs⟩; obtain ⟨gr, hgr⟩ : ∃ z, z = (w2.heap.size + 1 + 1 + 1 + 1) := ⟨_, rfl⟩; rw [← hgr] at hs ⊢; clear hgr; obtain ⟨g11, hg11⟩ : ∃ z, z = (w2.heap.size + 1 + 1 + 1) := ⟨_, rfl⟩; rw [← hg11] at hs ⊢; clear hg11; obtain ⟨g10, hg10⟩ : ∃ z, z = (w2.heap.size + 1 + 1) := ⟨_, rfl⟩; rw [← hg10] at hs ⊢; clear hg10; obtain ⟨g9, hg9⟩ : ∃ z, z = (w2.heap.size + 1) := ⟨_, rfl⟩; rw [← hg9] at hs ⊢; clear hg9; obtain ⟨g7, hg7⟩ : ∃ z, z = w2.heap.size := ⟨_, rfl⟩; rw [← hg7] at hs ⊢; clear hg7; have S1 := Aside0.mk (hs.put 0 (.int .u64 n0)); have c11 := cell_of_one hs.clo.b11; have cr := hs.cellr (i := 0) rfl; have fr := blk_frozen hs.rb 0; have ne11 := hs.r11; clear hs)
    | (clear c11 cr fr ne11; go_at_call 31; (with_reducible refine (small2 k n1 t1 e1 b2 S1.out X1.out Y1.out).mono ?_); rintro e v1 ⟨rfl, hs⟩; have S2 := Aside0.mk (hs.put 1 (.int .i64 (low32 n1))); have c11 := cell_of_one hs.clo.b11; have cr := hs.cellr (i := 1) rfl; have fr := blk_frozen hs.rb 1; have ne11 := hs.r11; clear hs)
    | (clear c11 cr fr ne11; go_at_call 31; (with_reducible refine (small2 k n2 t2 e2 b3 S2.out X2.out Y2.out).mono ?_); rintro e v2 ⟨rfl, hs⟩; have S3 := Aside0.mk (hs.put 2 (.int .i64 (low32 n2))); have c11 := cell_of_one hs.clo.b11; have cr := hs.cellr (i := 2) rfl; have fr := blk_frozen hs.rb 2; have ne11 := hs.r11; clear hs)
    | (clear c11 cr fr ne11; go_at_call 29; (with_reducible refine (number2 k n3 t3 e3 b4 S3.out X3.out Y3.out).mono ?_); rintro e v3 ⟨rfl, hs⟩; have S4 := Aside0.mk (hs.put 3 (.int .u64 n3)); have c11 := cell_of_one hs.clo.b11; have cr := hs.cellr (i := 3) rfl; have fr := blk_frozen hs.rb 3; have ne11 := hs.r11; clear hs)
    | (clear c11 cr fr ne11; go_at_call 29; (with_reducible refine (number2 k n4 t4 e4 b5 S4.out X4.out Y4.out).mono ?_); rintro e v4 ⟨rfl, hs⟩; have S5 := Aside0.mk (hs.put 4 (.int .u64 n4)); have c11 := cell_of_one hs.clo.b11; have cr := hs.cellr (i := 4) rfl; have fr := blk_frozen hs.rb 4; have ne11 := hs.r11; clear hs)
    | (clear c11 cr fr ne11; go_at_call 31; (with_reducible refine (small2 k n5 t5 e5 b6 S5.out X5.out Y5.out).mono ?_); rintro e v5 ⟨rfl, hs⟩; have S6 := Aside0.mk (hs.put 5 (.int .i64 (low32 n5))); have c11 := cell_of_one hs.clo.b11; have cr := hs.cellr (i := 5) rfl; have fr := blk_frozen hs.rb 5; have ne11 := hs.r11; clear hs)
    | (clear c11 cr fr ne11; go_at_call 31; (with_reducible refine (small2 k n6 t6 e6 true S6.out X6.out Y6.out).mono ?_); rintro e v6 ⟨rfl, hs⟩; have S7 := Aside0.mk (hs.put 6 (.int .i64 (low32 n6))); have c11 := cell_of_one hs.clo.b11; have cr := hs.cellr (i := 6) rfl; have fr := blk_frozen hs.rb 6; have ne11 := hs.r11; have c10 := cell_of_one hs.clo.b10; have ne10 := hs.r10; have ne44 := hs.r44; have zc0 := hs.r4.c0; have zc1 := hs.r4.c1; have zc2 := hs.r4.c2; have zc3 := hs.r4.c3; have zc4 := hs.r4.c4; have zc5 := hs.r4.c5; have zc6 := hs.r4.c6; have zf0 := hs.r4.fr 0; have zf1 := hs.r4.fr 1; have zf2 := hs.r4.fr 2; have zf3 := hs.r4.fr 3; have zf4 := hs.r4.fr 4; have zf5 := hs.r4.fr 5; have zf6 := hs.r4.fr 6; clear hs))
  refine bodyPost_ret (results_ct rfl _ _ w.heap.size 34 #[.int .u64 0, .int .i64 0, .int .i64 0, .int .u64 0, .int .u64 0, .int .i64 0, .int .i64 0] (0, 0) _ rfl (S7.out.r4.put (.int .u64 0) (.int .i64 0) (.int .i64 0) (.int .u64 0) (.int .u64 0) (.int .i64 0) (.int .i64 0)) Try.underlying34 rfl root_size) rfl ?_
  exact ⟨rfl, below_put7 S7.out.clo.be (Nat.le_refl _) _ _ _ _ _ _ _⟩
set_option maxHeartbeats 8000000 in
set_option maxRecDepth 100000 in
theorem root_Get.len_zero (k : Nat) (a0 : Int) (A1 : Option Addr) (c1 : Nat) (l1 : List Int) (p1 : Int) (p2 : List Int) (n0 n1 n2 n3 n4 n5 n6 t0 t1 t2 t3 t4 t5 t6 e0 e1 e2 e3 e4 e5 e6 : Int) (b1 b2 b3 b4 b5 b6 b7 : Bool) (h0 : a0 = 0) (hb7 : b7 = false) (ht6 : t6 ≠ (p2.length : Int)) (hp : page_Get.f k a0 l1 = some (p1, p2, 0)) (x0 : leb_Get.f k p2 0 = some (n0, t0, e0)) (x1 : leb_Get.f k p2 t0 = some (n1, t1, e1)) (x2 : leb_Get.f k p2 t1 = some (n2, t2, e2)) (x3 : leb_Get.f k p2 t2 = some (n3, t3, e3)) (x4 : leb_Get.f k p2 t3 = some (n4, t4, e4)) (x5 : leb_Get.f k p2 t4 = some (n5, t5, e5)) (x6 : leb_Get.f k p2 t5 = some (n6, t6, e6)) (y0 : ((p1 != 1) || e0 != 0) = b1) (y1 : ((b1 || e1 != 0) || decide (n1 > 2147483648)) = b2) (y2 : ((b2 || e2 != 0) || decide (n2 > 2147483648)) = b3) (y3 : (b3 || e3 != 0) = b4) (y4 : (b4 || e4 != 0) = b5) (y5 : ((b5 || e5 != 0) || decide (n5 > 2147483648)) = b6) (y6 : ((b6 || e6 != 0) || decide (n6 > 2147483648)) = b7) (w : World) (hr1 : Kd.C (Kd.int .u8) w A1 l1.length l1) (hc1 : l1.length ≤ c1) :
    Calls Try.prog 15 #[.int .i64 a0, .slice A1 l1.length c1] w fun e w' => e = .returned (.tuple #[.agg #[.int .u64 0, .int .i64 0, .int .i64 0, .int .u64 0, .int .u64 0, .int .i64 0, .int .i64 0], .int .i64 5]) ∧ Below w.heap.size w w' := by
  have HR1 := Aside0.mk hr1
  have HC1 := Aside0.mk hc1
  have HP := Aside0.mk hp
  have X0 := Aside0.mk x0
  have X1 := Aside0.mk x1
  have X2 := Aside0.mk x2
  have X3 := Aside0.mk x3
  have X4 := Aside0.mk x4
  have X5 := Aside0.mk x5
  have X6 := Aside0.mk x6
  have Y0 := Aside0.mk y0
  have Y1 := Aside0.mk y1
  have Y2 := Aside0.mk y2
  have Y3 := Aside0.mk y3
  have Y4 := Aside0.mk y4
  have Y5 := Aside0.mk y5
  have Y6 := Aside0.mk y6
  clear hr1 hc1 hp x0 y0 x1 y1 x2 y2 x3 y3 x4 y4 x5 y5 x6 y6
  have q1 : (a0 != 0) = false := bne_eq_false_iff_eq.mpr h0
  clear h0
  subst hb7
  have tl : (t6 != (p2.length : Int)) = true := bne_iff_ne.mpr ht6
  clear ht6
  go_enter Try.func15, Try.ntmps15
  go_wp2_with (first
    | (go_at_call 9; (with_reducible refine (page_Get.calls k a0 A1 c1 l1 p1 p2 0 _ (Kd.C_alloc HR1.out _) HC1.out HP.out).mono ?_); rintro e w2 ⟨v, rfl, ho, _, hb⟩; obtain ⟨A2, c2, ev⟩ := Kd.R_slice ho; subst ev; have hro := Kd.R_lower ho (below_alloc (Below.refl w.heap.size w) (.cells #[.int .u64 0, .int .i64 0, .int .i64 0, .int .u64 0, .int .u64 0, .int .i64 0, .int .i64 0] 34)).size; have S0 := Aside0.mk (clo_start (w := w) (w2 := w2) w.heap.size A2 c2 p2 (p1 != 1) (below_step (below_alloc (Below.refl _ _) _) hb) hro ((rootb_new w (.int .u64 0) (.int .i64 0) (.int .i64 0) (.int .u64 0) (.int .u64 0) (.int .i64 0) (.int .i64 0)).below hb) (Nat.le_refl _)); clear ho hb hro)
    | (go_at_call 29; (with_reducible refine (number2 k n0 t0 e0 b1 S0.out X0.out Y0.out).mono ?_); rintro e v0 ⟨rfl, hs⟩; obtain ⟨gr, hgr⟩ : ∃ z, z = (w2.heap.size + 1 + 1 + 1 + 1) := ⟨_, rfl⟩; rw [← hgr] at hs ⊢; clear hgr; obtain ⟨g11, hg11⟩ : ∃ z, z = (w2.heap.size + 1 + 1 + 1) := ⟨_, rfl⟩; rw [← hg11] at hs ⊢; clear hg11; obtain ⟨g10, hg10⟩ : ∃ z, z = (w2.heap.size + 1 + 1) := ⟨_, rfl⟩; rw [← hg10] at hs ⊢; clear hg10; obtain ⟨g9, hg9⟩ : ∃ z, z = (w2.heap.size + 1) := ⟨_, rfl⟩; rw [← hg9] at hs ⊢; clear hg9; obtain ⟨g7, hg7⟩ : ∃ z, z = w2.heap.size := ⟨_, rfl⟩; rw [← hg7] at hs ⊢; clear hg7; have S1 := Aside0.mk (hs.put 0 (.int .u64 n0)); have c11 := cell_of_one hs.clo.b11; have cr := hs.cellr (i := 0) rfl; have fr := blk_frozen hs.rb 0; have ne11 := hs.r11; clear hs)
    | (clear c11 cr fr ne11; go_at_call 31; (with_reducible refine (small2 k n1 t1 e1 b2 S1.out X1.out Y1.out).mono ?_); rintro e v1 ⟨rfl, hs⟩; have S2 := Aside0.mk (hs.put 1 (.int .i64 (low32 n1))); have c11 := cell_of_one hs.clo.b11; have cr := hs.cellr (i := 1) rfl; have fr := blk_frozen hs.rb 1; have ne11 := hs.r11; clear hs)
    | (clear c11 cr fr ne11; go_at_call 31; (with_reducible refine (small2 k n2 t2 e2 b3 S2.out X2.out Y2.out).mono ?_); rintro e v2 ⟨rfl, hs⟩; have S3 := Aside0.mk (hs.put 2 (.int .i64 (low32 n2))); have c11 := cell_of_one hs.clo.b11; have cr := hs.cellr (i := 2) rfl; have fr := blk_frozen hs.rb 2; have ne11 := hs.r11; clear hs)
    | (clear c11 cr fr ne11; go_at_call 29; (with_reducible refine (number2 k n3 t3 e3 b4 S3.out X3.out Y3.out).mono ?_); rintro e v3 ⟨rfl, hs⟩; have S4 := Aside0.mk (hs.put 3 (.int .u64 n3)); have c11 := cell_of_one hs.clo.b11; have cr := hs.cellr (i := 3) rfl; have fr := blk_frozen hs.rb 3; have ne11 := hs.r11; clear hs)
    | (clear c11 cr fr ne11; go_at_call 29; (with_reducible refine (number2 k n4 t4 e4 b5 S4.out X4.out Y4.out).mono ?_); rintro e v4 ⟨rfl, hs⟩; have S5 := Aside0.mk (hs.put 4 (.int .u64 n4)); have c11 := cell_of_one hs.clo.b11; have cr := hs.cellr (i := 4) rfl; have fr := blk_frozen hs.rb 4; have ne11 := hs.r11; clear hs)
    | (clear c11 cr fr ne11; go_at_call 31; (with_reducible refine (small2 k n5 t5 e5 b6 S5.out X5.out Y5.out).mono ?_); rintro e v5 ⟨rfl, hs⟩; have S6 := Aside0.mk (hs.put 5 (.int .i64 (low32 n5))); have c11 := cell_of_one hs.clo.b11; have cr := hs.cellr (i := 5) rfl; have fr := blk_frozen hs.rb 5; have ne11 := hs.r11; clear hs)
    | (clear c11 cr fr ne11; go_at_call 31; (with_reducible refine (small2 k n6 t6 e6 false S6.out X6.out Y6.out).mono ?_); rintro e v6 ⟨rfl, hs⟩; have S7 := Aside0.mk (hs.put 6 (.int .i64 (low32 n6))); have c11 := cell_of_one hs.clo.b11; have cr := hs.cellr (i := 6) rfl; have fr := blk_frozen hs.rb 6; have ne11 := hs.r11; have c10 := cell_of_one hs.clo.b10; have ne10 := hs.r10; have ne44 := hs.r44; have c9 := cell_of_one hs.clo.b9; have c7 := cell_of_one hs.clo.b7; have ne9 := hs.r9; have ne7 := hs.r7; have zc0 := hs.r4.c0; have zc1 := hs.r4.c1; have zc2 := hs.r4.c2; have zc3 := hs.r4.c3; have zc4 := hs.r4.c4; have zc5 := hs.r4.c5; have zc6 := hs.r4.c6; have zf0 := hs.r4.fr 0; have zf1 := hs.r4.fr 1; have zf2 := hs.r4.fr 2; have zf3 := hs.r4.fr 3; have zf4 := hs.r4.fr 4; have zf5 := hs.r4.fr 5; have zf6 := hs.r4.fr 6; clear hs))
  refine bodyPost_ret (results_ct rfl _ _ w.heap.size 34 #[.int .u64 0, .int .i64 0, .int .i64 0, .int .u64 0, .int .u64 0, .int .i64 0, .int .i64 0] (0, 0) _ rfl (S7.out.r4.put (.int .u64 0) (.int .i64 0) (.int .i64 0) (.int .u64 0) (.int .u64 0) (.int .i64 0) (.int .i64 0)) Try.underlying34 rfl root_size) rfl ?_
  exact ⟨rfl, below_put7 S7.out.clo.be (Nat.le_refl _) _ _ _ _ _ _ _⟩
set_option maxHeartbeats 8000000 in
set_option maxRecDepth 100000 in
theorem root_Get.may_zero (k : Nat) (a0 : Int) (A1 : Option Addr) (c1 : Nat) (l1 : List Int) (p1 : Int) (p2 : List Int) (n0 n1 n2 n3 n4 n5 n6 t0 t1 t2 t3 t4 t5 t6 e0 e1 e2 e3 e4 e5 e6 : Int) (b1 b2 b3 b4 b5 b6 b7 : Bool) (h0 : a0 = 0) (hb7 : b7 = false) (ht6 : t6 = (p2.length : Int)) (hm : root_may.f k n0 (low32 n1) (low32 n2) n3 n4 (low32 n5) (low32 n6) = some false) (hp : page_Get.f k a0 l1 = some (p1, p2, 0)) (x0 : leb_Get.f k p2 0 = some (n0, t0, e0)) (x1 : leb_Get.f k p2 t0 = some (n1, t1, e1)) (x2 : leb_Get.f k p2 t1 = some (n2, t2, e2)) (x3 : leb_Get.f k p2 t2 = some (n3, t3, e3)) (x4 : leb_Get.f k p2 t3 = some (n4, t4, e4)) (x5 : leb_Get.f k p2 t4 = some (n5, t5, e5)) (x6 : leb_Get.f k p2 t5 = some (n6, t6, e6)) (y0 : ((p1 != 1) || e0 != 0) = b1) (y1 : ((b1 || e1 != 0) || decide (n1 > 2147483648)) = b2) (y2 : ((b2 || e2 != 0) || decide (n2 > 2147483648)) = b3) (y3 : (b3 || e3 != 0) = b4) (y4 : (b4 || e4 != 0) = b5) (y5 : ((b5 || e5 != 0) || decide (n5 > 2147483648)) = b6) (y6 : ((b6 || e6 != 0) || decide (n6 > 2147483648)) = b7) (w : World) (hr1 : Kd.C (Kd.int .u8) w A1 l1.length l1) (hc1 : l1.length ≤ c1) :
    Calls Try.prog 15 #[.int .i64 a0, .slice A1 l1.length c1] w fun e w' => e = .returned (.tuple #[.agg #[.int .u64 0, .int .i64 0, .int .i64 0, .int .u64 0, .int .u64 0, .int .i64 0, .int .i64 0], .int .i64 5]) ∧ Below w.heap.size w w' := by
  have HR1 := Aside0.mk hr1
  have HC1 := Aside0.mk hc1
  have HP := Aside0.mk hp
  have X0 := Aside0.mk x0
  have X1 := Aside0.mk x1
  have X2 := Aside0.mk x2
  have X3 := Aside0.mk x3
  have X4 := Aside0.mk x4
  have X5 := Aside0.mk x5
  have X6 := Aside0.mk x6
  have Y0 := Aside0.mk y0
  have Y1 := Aside0.mk y1
  have Y2 := Aside0.mk y2
  have Y3 := Aside0.mk y3
  have Y4 := Aside0.mk y4
  have Y5 := Aside0.mk y5
  have Y6 := Aside0.mk y6
  clear hr1 hc1 hp x0 y0 x1 y1 x2 y2 x3 y3 x4 y4 x5 y5 x6 y6
  have q1 : (a0 != 0) = false := bne_eq_false_iff_eq.mpr h0
  clear h0
  subst hb7
  have tl : (t6 != (p2.length : Int)) = false := bne_eq_false_iff_eq.mpr ht6
  have HM := Aside0.mk hm
  clear ht6 hm
  go_enter Try.func15, Try.ntmps15
  go_wp2_with (first
    | (go_at_call 9; (with_reducible refine (page_Get.calls k a0 A1 c1 l1 p1 p2 0 _ (Kd.C_alloc HR1.out _) HC1.out HP.out).mono ?_); rintro e w2 ⟨v, rfl, ho, _, hb⟩; obtain ⟨A2, c2, ev⟩ := Kd.R_slice ho; subst ev; have hro := Kd.R_lower ho (below_alloc (Below.refl w.heap.size w) (.cells #[.int .u64 0, .int .i64 0, .int .i64 0, .int .u64 0, .int .u64 0, .int .i64 0, .int .i64 0] 34)).size; have S0 := Aside0.mk (clo_start (w := w) (w2 := w2) w.heap.size A2 c2 p2 (p1 != 1) (below_step (below_alloc (Below.refl _ _) _) hb) hro ((rootb_new w (.int .u64 0) (.int .i64 0) (.int .i64 0) (.int .u64 0) (.int .u64 0) (.int .i64 0) (.int .i64 0)).below hb) (Nat.le_refl _)); clear ho hb hro)
    | (go_at_call 29; (with_reducible refine (number2 k n0 t0 e0 b1 S0.out X0.out Y0.out).mono ?_); rintro e v0 ⟨rfl, hs⟩; obtain ⟨gr, hgr⟩ : ∃ z, z = (w2.heap.size + 1 + 1 + 1 + 1) := ⟨_, rfl⟩; rw [← hgr] at hs ⊢; clear hgr; obtain ⟨g11, hg11⟩ : ∃ z, z = (w2.heap.size + 1 + 1 + 1) := ⟨_, rfl⟩; rw [← hg11] at hs ⊢; clear hg11; obtain ⟨g10, hg10⟩ : ∃ z, z = (w2.heap.size + 1 + 1) := ⟨_, rfl⟩; rw [← hg10] at hs ⊢; clear hg10; obtain ⟨g9, hg9⟩ : ∃ z, z = (w2.heap.size + 1) := ⟨_, rfl⟩; rw [← hg9] at hs ⊢; clear hg9; obtain ⟨g7, hg7⟩ : ∃ z, z = w2.heap.size := ⟨_, rfl⟩; rw [← hg7] at hs ⊢; clear hg7; have S1 := Aside0.mk (hs.put 0 (.int .u64 n0)); have c11 := cell_of_one hs.clo.b11; have cr := hs.cellr (i := 0) rfl; have fr := blk_frozen hs.rb 0; have ne11 := hs.r11; clear hs)
    | (clear c11 cr fr ne11; go_at_call 31; (with_reducible refine (small2 k n1 t1 e1 b2 S1.out X1.out Y1.out).mono ?_); rintro e v1 ⟨rfl, hs⟩; have S2 := Aside0.mk (hs.put 1 (.int .i64 (low32 n1))); have c11 := cell_of_one hs.clo.b11; have cr := hs.cellr (i := 1) rfl; have fr := blk_frozen hs.rb 1; have ne11 := hs.r11; clear hs)
    | (clear c11 cr fr ne11; go_at_call 31; (with_reducible refine (small2 k n2 t2 e2 b3 S2.out X2.out Y2.out).mono ?_); rintro e v2 ⟨rfl, hs⟩; have S3 := Aside0.mk (hs.put 2 (.int .i64 (low32 n2))); have c11 := cell_of_one hs.clo.b11; have cr := hs.cellr (i := 2) rfl; have fr := blk_frozen hs.rb 2; have ne11 := hs.r11; clear hs)
    | (clear c11 cr fr ne11; go_at_call 29; (with_reducible refine (number2 k n3 t3 e3 b4 S3.out X3.out Y3.out).mono ?_); rintro e v3 ⟨rfl, hs⟩; have S4 := Aside0.mk (hs.put 3 (.int .u64 n3)); have c11 := cell_of_one hs.clo.b11; have cr := hs.cellr (i := 3) rfl; have fr := blk_frozen hs.rb 3; have ne11 := hs.r11; clear hs)
    | (clear c11 cr fr ne11; go_at_call 29; (with_reducible refine (number2 k n4 t4 e4 b5 S4.out X4.out Y4.out).mono ?_); rintro e v4 ⟨rfl, hs⟩; have S5 := Aside0.mk (hs.put 4 (.int .u64 n4)); have c11 := cell_of_one hs.clo.b11; have cr := hs.cellr (i := 4) rfl; have fr := blk_frozen hs.rb 4; have ne11 := hs.r11; clear hs)
    | (clear c11 cr fr ne11; go_at_call 31; (with_reducible refine (small2 k n5 t5 e5 b6 S5.out X5.out Y5.out).mono ?_); rintro e v5 ⟨rfl, hs⟩; have S6 := Aside0.mk (hs.put 5 (.int .i64 (low32 n5))); have c11 := cell_of_one hs.clo.b11; have cr := hs.cellr (i := 5) rfl; have fr := blk_frozen hs.rb 5; have ne11 := hs.r11; clear hs)
    | (clear c11 cr fr ne11; go_at_call 31; (with_reducible refine (small2 k n6 t6 e6 false S6.out X6.out Y6.out).mono ?_); rintro e v6 ⟨rfl, hs⟩; have S7 := Aside0.mk (hs.put 6 (.int .i64 (low32 n6))); have c11 := cell_of_one hs.clo.b11; have cr := hs.cellr (i := 6) rfl; have fr := blk_frozen hs.rb 6; have ne11 := hs.r11; have c10 := cell_of_one hs.clo.b10; have ne10 := hs.r10; have ne44 := hs.r44; have c9 := cell_of_one hs.clo.b9; have c7 := cell_of_one hs.clo.b7; have ne9 := hs.r9; have ne7 := hs.r7; have cr0 := hs.cellr (i := 0) rfl; have cr1 := hs.cellr (i := 1) rfl; have cr2 := hs.cellr (i := 2) rfl; have cr3 := hs.cellr (i := 3) rfl; have cr4 := hs.cellr (i := 4) rfl; have cr5 := hs.cellr (i := 5) rfl; clear hs)
    | (go_at_call 24; (with_reducible refine (root_may.calls k n0 (low32 n1) (low32 n2) n3 n4 (low32 n5) (low32 n6) false _ HM.out).mono ?_); rintro e v7 ⟨rfl, hb⟩; have B7 := Aside0.mk (below_step S7.out.clo.be hb); have R7 := Aside0.mk (S7.out.r4.below hb); have Q7 := Aside0.mk (blk_below S7.out.rb hb); clear hb; have zc0 := R7.out.c0; have zc1 := R7.out.c1; have zc2 := R7.out.c2; have zc3 := R7.out.c3; have zc4 := R7.out.c4; have zc5 := R7.out.c5; have zc6 := R7.out.c6; have zf0 := R7.out.fr 0; have zf1 := R7.out.fr 1; have zf2 := R7.out.fr 2; have zf3 := R7.out.fr 3; have zf4 := R7.out.fr 4; have zf5 := R7.out.fr 5; have zf6 := R7.out.fr 6; ))
  refine bodyPost_ret (results_ct rfl _ _ w.heap.size 34 #[.int .u64 0, .int .i64 0, .int .i64 0, .int .u64 0, .int .u64 0, .int .i64 0, .int .i64 0] (0, 0) _ rfl (R7.out.put (.int .u64 0) (.int .i64 0) (.int .i64 0) (.int .u64 0) (.int .u64 0) (.int .i64 0) (.int .i64 0)) Try.underlying34 rfl root_size) rfl ?_
  exact ⟨rfl, below_put7 B7.out (Nat.le_refl _) _ _ _ _ _ _ _⟩
set_option maxHeartbeats 8000000 in
set_option maxRecDepth 100000 in
theorem root_Get.bad_one (k : Nat) (a0 : Int) (A1 : Option Addr) (c1 : Nat) (l1 : List Int) (p1 : Int) (p2 : List Int) (n0 n1 n2 n3 n4 n5 n6 t0 t1 t2 t3 t4 t5 t6 e0 e1 e2 e3 e4 e5 e6 : Int) (b1 b2 b3 b4 b5 b6 b7 : Bool) (h0 : a0 = 1) (hb7 : b7 = true) (hp : page_Get.f k a0 l1 = some (p1, p2, 0)) (x0 : leb_Get.f k p2 0 = some (n0, t0, e0)) (x1 : leb_Get.f k p2 t0 = some (n1, t1, e1)) (x2 : leb_Get.f k p2 t1 = some (n2, t2, e2)) (x3 : leb_Get.f k p2 t2 = some (n3, t3, e3)) (x4 : leb_Get.f k p2 t3 = some (n4, t4, e4)) (x5 : leb_Get.f k p2 t4 = some (n5, t5, e5)) (x6 : leb_Get.f k p2 t5 = some (n6, t6, e6)) (y0 : ((p1 != 1) || e0 != 0) = b1) (y1 : ((b1 || e1 != 0) || decide (n1 > 2147483648)) = b2) (y2 : ((b2 || e2 != 0) || decide (n2 > 2147483648)) = b3) (y3 : (b3 || e3 != 0) = b4) (y4 : (b4 || e4 != 0) = b5) (y5 : ((b5 || e5 != 0) || decide (n5 > 2147483648)) = b6) (y6 : ((b6 || e6 != 0) || decide (n6 > 2147483648)) = b7) (w : World) (hr1 : Kd.C (Kd.int .u8) w A1 l1.length l1) (hc1 : l1.length ≤ c1) :
    Calls Try.prog 15 #[.int .i64 a0, .slice A1 l1.length c1] w fun e w' => e = .returned (.tuple #[.agg #[.int .u64 0, .int .i64 0, .int .i64 0, .int .u64 0, .int .u64 0, .int .i64 0, .int .i64 0], .int .i64 5]) ∧ Below w.heap.size w w' := by
  have HR1 := Aside0.mk hr1
  have HC1 := Aside0.mk hc1
  have HP := Aside0.mk hp
  have X0 := Aside0.mk x0
  have X1 := Aside0.mk x1
  have X2 := Aside0.mk x2
  have X3 := Aside0.mk x3
  have X4 := Aside0.mk x4
  have X5 := Aside0.mk x5
  have X6 := Aside0.mk x6
  have Y0 := Aside0.mk y0
  have Y1 := Aside0.mk y1
  have Y2 := Aside0.mk y2
  have Y3 := Aside0.mk y3
  have Y4 := Aside0.mk y4
  have Y5 := Aside0.mk y5
  have Y6 := Aside0.mk y6
  clear hr1 hc1 hp x0 y0 x1 y1 x2 y2 x3 y3 x4 y4 x5 y5 x6 y6
  have q1 : (a0 != 0) = true := bne_iff_ne.mpr (by omega)
  have q2 : (a0 != 1) = false := bne_eq_false_iff_eq.mpr h0
  clear h0
  subst hb7
  go_enter Try.func15, Try.ntmps15
  go_wp2_with (first
    | (go_at_call 9; (with_reducible refine (page_Get.calls k a0 A1 c1 l1 p1 p2 0 _ (Kd.C_alloc HR1.out _) HC1.out HP.out).mono ?_); rintro e w2 ⟨v, rfl, ho, _, hb⟩; obtain ⟨A2, c2, ev⟩ := Kd.R_slice ho; subst ev; have hro := Kd.R_lower ho (below_alloc (Below.refl w.heap.size w) (.cells #[.int .u64 0, .int .i64 0, .int .i64 0, .int .u64 0, .int .u64 0, .int .i64 0, .int .i64 0] 34)).size; have S0 := Aside0.mk (clo_start (w := w) (w2 := w2) w.heap.size A2 c2 p2 (p1 != 1) (below_step (below_alloc (Below.refl _ _) _) hb) hro ((rootb_new w (.int .u64 0) (.int .i64 0) (.int .i64 0) (.int .u64 0) (.int .u64 0) (.int .i64 0) (.int .i64 0)).below hb) (Nat.le_refl _)); clear ho hb hro)
    | (go_at_call 29; (with_reducible refine (number2 k n0 t0 e0 b1 S0.out X0.out Y0.out).mono ?_); rintro e v0 ⟨rfl, hs⟩; obtain ⟨gr, hgr⟩ : ∃ z, z = (w2.heap.size + 1 + 1 + 1 + 1) := ⟨_, rfl⟩; rw [← hgr] at hs ⊢; clear hgr; obtain ⟨g11, hg11⟩ : ∃ z, z = (w2.heap.size + 1 + 1 + 1) := ⟨_, rfl⟩; rw [← hg11] at hs ⊢; clear hg11; obtain ⟨g10, hg10⟩ : ∃ z, z = (w2.heap.size + 1 + 1) := ⟨_, rfl⟩; rw [← hg10] at hs ⊢; clear hg10; obtain ⟨g9, hg9⟩ : ∃ z, z = (w2.heap.size + 1) := ⟨_, rfl⟩; rw [← hg9] at hs ⊢; clear hg9; obtain ⟨g7, hg7⟩ : ∃ z, z = w2.heap.size := ⟨_, rfl⟩; rw [← hg7] at hs ⊢; clear hg7; have S1 := Aside0.mk (hs.put 0 (.int .u64 n0)); have c11 := cell_of_one hs.clo.b11; have cr := hs.cellr (i := 0) rfl; have fr := blk_frozen hs.rb 0; have ne11 := hs.r11; clear hs)
    | (clear c11 cr fr ne11; go_at_call 31; (with_reducible refine (small2 k n1 t1 e1 b2 S1.out X1.out Y1.out).mono ?_); rintro e v1 ⟨rfl, hs⟩; have S2 := Aside0.mk (hs.put 1 (.int .i64 (low32 n1))); have c11 := cell_of_one hs.clo.b11; have cr := hs.cellr (i := 1) rfl; have fr := blk_frozen hs.rb 1; have ne11 := hs.r11; clear hs)
    | (clear c11 cr fr ne11; go_at_call 31; (with_reducible refine (small2 k n2 t2 e2 b3 S2.out X2.out Y2.out).mono ?_); rintro e v2 ⟨rfl, hs⟩; have S3 := Aside0.mk (hs.put 2 (.int .i64 (low32 n2))); have c11 := cell_of_one hs.clo.b11; have cr := hs.cellr (i := 2) rfl; have fr := blk_frozen hs.rb 2; have ne11 := hs.r11; clear hs)
    | (clear c11 cr fr ne11; go_at_call 29; (with_reducible refine (number2 k n3 t3 e3 b4 S3.out X3.out Y3.out).mono ?_); rintro e v3 ⟨rfl, hs⟩; have S4 := Aside0.mk (hs.put 3 (.int .u64 n3)); have c11 := cell_of_one hs.clo.b11; have cr := hs.cellr (i := 3) rfl; have fr := blk_frozen hs.rb 3; have ne11 := hs.r11; clear hs)
    | (clear c11 cr fr ne11; go_at_call 29; (with_reducible refine (number2 k n4 t4 e4 b5 S4.out X4.out Y4.out).mono ?_); rintro e v4 ⟨rfl, hs⟩; have S5 := Aside0.mk (hs.put 4 (.int .u64 n4)); have c11 := cell_of_one hs.clo.b11; have cr := hs.cellr (i := 4) rfl; have fr := blk_frozen hs.rb 4; have ne11 := hs.r11; clear hs)
    | (clear c11 cr fr ne11; go_at_call 31; (with_reducible refine (small2 k n5 t5 e5 b6 S5.out X5.out Y5.out).mono ?_); rintro e v5 ⟨rfl, hs⟩; have S6 := Aside0.mk (hs.put 5 (.int .i64 (low32 n5))); have c11 := cell_of_one hs.clo.b11; have cr := hs.cellr (i := 5) rfl; have fr := blk_frozen hs.rb 5; have ne11 := hs.r11; clear hs)
    | (clear c11 cr fr ne11; go_at_call 31; (with_reducible refine (small2 k n6 t6 e6 true S6.out X6.out Y6.out).mono ?_); rintro e v6 ⟨rfl, hs⟩; have S7 := Aside0.mk (hs.put 6 (.int .i64 (low32 n6))); have c11 := cell_of_one hs.clo.b11; have cr := hs.cellr (i := 6) rfl; have fr := blk_frozen hs.rb 6; have ne11 := hs.r11; have c10 := cell_of_one hs.clo.b10; have ne10 := hs.r10; have ne44 := hs.r44; have zc0 := hs.r4.c0; have zc1 := hs.r4.c1; have zc2 := hs.r4.c2; have zc3 := hs.r4.c3; have zc4 := hs.r4.c4; have zc5 := hs.r4.c5; have zc6 := hs.r4.c6; have zf0 := hs.r4.fr 0; have zf1 := hs.r4.fr 1; have zf2 := hs.r4.fr 2; have zf3 := hs.r4.fr 3; have zf4 := hs.r4.fr 4; have zf5 := hs.r4.fr 5; have zf6 := hs.r4.fr 6; clear hs))
  refine bodyPost_ret (results_ct rfl _ _ w.heap.size 34 #[.int .u64 0, .int .i64 0, .int .i64 0, .int .u64 0, .int .u64 0, .int .i64 0, .int .i64 0] (0, 0) _ rfl (S7.out.r4.put (.int .u64 0) (.int .i64 0) (.int .i64 0) (.int .u64 0) (.int .u64 0) (.int .i64 0) (.int .i64 0)) Try.underlying34 rfl root_size) rfl ?_
  exact ⟨rfl, below_put7 S7.out.clo.be (Nat.le_refl _) _ _ _ _ _ _ _⟩
set_option maxHeartbeats 8000000 in
set_option maxRecDepth 100000 in
theorem root_Get.len_one (k : Nat) (a0 : Int) (A1 : Option Addr) (c1 : Nat) (l1 : List Int) (p1 : Int) (p2 : List Int) (n0 n1 n2 n3 n4 n5 n6 t0 t1 t2 t3 t4 t5 t6 e0 e1 e2 e3 e4 e5 e6 : Int) (b1 b2 b3 b4 b5 b6 b7 : Bool) (h0 : a0 = 1) (hb7 : b7 = false) (ht6 : t6 ≠ (p2.length : Int)) (hp : page_Get.f k a0 l1 = some (p1, p2, 0)) (x0 : leb_Get.f k p2 0 = some (n0, t0, e0)) (x1 : leb_Get.f k p2 t0 = some (n1, t1, e1)) (x2 : leb_Get.f k p2 t1 = some (n2, t2, e2)) (x3 : leb_Get.f k p2 t2 = some (n3, t3, e3)) (x4 : leb_Get.f k p2 t3 = some (n4, t4, e4)) (x5 : leb_Get.f k p2 t4 = some (n5, t5, e5)) (x6 : leb_Get.f k p2 t5 = some (n6, t6, e6)) (y0 : ((p1 != 1) || e0 != 0) = b1) (y1 : ((b1 || e1 != 0) || decide (n1 > 2147483648)) = b2) (y2 : ((b2 || e2 != 0) || decide (n2 > 2147483648)) = b3) (y3 : (b3 || e3 != 0) = b4) (y4 : (b4 || e4 != 0) = b5) (y5 : ((b5 || e5 != 0) || decide (n5 > 2147483648)) = b6) (y6 : ((b6 || e6 != 0) || decide (n6 > 2147483648)) = b7) (w : World) (hr1 : Kd.C (Kd.int .u8) w A1 l1.length l1) (hc1 : l1.length ≤ c1) :
    Calls Try.prog 15 #[.int .i64 a0, .slice A1 l1.length c1] w fun e w' => e = .returned (.tuple #[.agg #[.int .u64 0, .int .i64 0, .int .i64 0, .int .u64 0, .int .u64 0, .int .i64 0, .int .i64 0], .int .i64 5]) ∧ Below w.heap.size w w' := by
  have HR1 := Aside0.mk hr1
  have HC1 := Aside0.mk hc1
  have HP := Aside0.mk hp
  have X0 := Aside0.mk x0
  have X1 := Aside0.mk x1
  have X2 := Aside0.mk x2
  have X3 := Aside0.mk x3
  have X4 := Aside0.mk x4
  have X5 := Aside0.mk x5
  have X6 := Aside0.mk x6
  have Y0 := Aside0.mk y0
  have Y1 := Aside0.mk y1
  have Y2 := Aside0.mk y2
  have Y3 := Aside0.mk y3
  have Y4 := Aside0.mk y4
  have Y5 := Aside0.mk y5
  have Y6 := Aside0.mk y6
  clear hr1 hc1 hp x0 y0 x1 y1 x2 y2 x3 y3 x4 y4 x5 y5 x6 y6
  have q1 : (a0 != 0) = true := bne_iff_ne.mpr (by omega)
  have q2 : (a0 != 1) = false := bne_eq_false_iff_eq.mpr h0
  clear h0
  subst hb7
  have tl : (t6 != (p2.length : Int)) = true := bne_iff_ne.mpr ht6
  clear ht6
  go_enter Try.func15, Try.ntmps15
  go_wp2_with (first
    | (go_at_call 9; (with_reducible refine (page_Get.calls k a0 A1 c1 l1 p1 p2 0 _ (Kd.C_alloc HR1.out _) HC1.out HP.out).mono ?_); rintro e w2 ⟨v, rfl, ho, _, hb⟩; obtain ⟨A2, c2, ev⟩ := Kd.R_slice ho; subst ev; have hro := Kd.R_lower ho (below_alloc (Below.refl w.heap.size w) (.cells #[.int .u64 0, .int .i64 0, .int .i64 0, .int .u64 0, .int .u64 0, .int .i64 0, .int .i64 0] 34)).size; have S0 := Aside0.mk (clo_start (w := w) (w2 := w2) w.heap.size A2 c2 p2 (p1 != 1) (below_step (below_alloc (Below.refl _ _) _) hb) hro ((rootb_new w (.int .u64 0) (.int .i64 0) (.int .i64 0) (.int .u64 0) (.int .u64 0) (.int .i64 0) (.int .i64 0)).below hb) (Nat.le_refl _)); clear ho hb hro)
    | (go_at_call 29; (with_reducible refine (number2 k n0 t0 e0 b1 S0.out X0.out Y0.out).mono ?_); rintro e v0 ⟨rfl, hs⟩; obtain ⟨gr, hgr⟩ : ∃ z, z = (w2.heap.size + 1 + 1 + 1 + 1) := ⟨_, rfl⟩; rw [← hgr] at hs ⊢; clear hgr; obtain ⟨g11, hg11⟩ : ∃ z, z = (w2.heap.size + 1 + 1 + 1) := ⟨_, rfl⟩; rw [← hg11] at hs ⊢; clear hg11; obtain ⟨g10, hg10⟩ : ∃ z, z = (w2.heap.size + 1 + 1) := ⟨_, rfl⟩; rw [← hg10] at hs ⊢; clear hg10; obtain ⟨g9, hg9⟩ : ∃ z, z = (w2.heap.size + 1) := ⟨_, rfl⟩; rw [← hg9] at hs ⊢; clear hg9; obtain ⟨g7, hg7⟩ : ∃ z, z = w2.heap.size := ⟨_, rfl⟩; rw [← hg7] at hs ⊢; clear hg7; have S1 := Aside0.mk (hs.put 0 (.int .u64 n0)); have c11 := cell_of_one hs.clo.b11; have cr := hs.cellr (i := 0) rfl; have fr := blk_frozen hs.rb 0; have ne11 := hs.r11; clear hs)
    | (clear c11 cr fr ne11; go_at_call 31; (with_reducible refine (small2 k n1 t1 e1 b2 S1.out X1.out Y1.out).mono ?_); rintro e v1 ⟨rfl, hs⟩; have S2 := Aside0.mk (hs.put 1 (.int .i64 (low32 n1))); have c11 := cell_of_one hs.clo.b11; have cr := hs.cellr (i := 1) rfl; have fr := blk_frozen hs.rb 1; have ne11 := hs.r11; clear hs)
    | (clear c11 cr fr ne11; go_at_call 31; (with_reducible refine (small2 k n2 t2 e2 b3 S2.out X2.out Y2.out).mono ?_); rintro e v2 ⟨rfl, hs⟩; have S3 := Aside0.mk (hs.put 2 (.int .i64 (low32 n2))); have c11 := cell_of_one hs.clo.b11; have cr := hs.cellr (i := 2) rfl; have fr := blk_frozen hs.rb 2; have ne11 := hs.r11; clear hs)
    | (clear c11 cr fr ne11; go_at_call 29; (with_reducible refine (number2 k n3 t3 e3 b4 S3.out X3.out Y3.out).mono ?_); rintro e v3 ⟨rfl, hs⟩; have S4 := Aside0.mk (hs.put 3 (.int .u64 n3)); have c11 := cell_of_one hs.clo.b11; have cr := hs.cellr (i := 3) rfl; have fr := blk_frozen hs.rb 3; have ne11 := hs.r11; clear hs)
    | (clear c11 cr fr ne11; go_at_call 29; (with_reducible refine (number2 k n4 t4 e4 b5 S4.out X4.out Y4.out).mono ?_); rintro e v4 ⟨rfl, hs⟩; have S5 := Aside0.mk (hs.put 4 (.int .u64 n4)); have c11 := cell_of_one hs.clo.b11; have cr := hs.cellr (i := 4) rfl; have fr := blk_frozen hs.rb 4; have ne11 := hs.r11; clear hs)
    | (clear c11 cr fr ne11; go_at_call 31; (with_reducible refine (small2 k n5 t5 e5 b6 S5.out X5.out Y5.out).mono ?_); rintro e v5 ⟨rfl, hs⟩; have S6 := Aside0.mk (hs.put 5 (.int .i64 (low32 n5))); have c11 := cell_of_one hs.clo.b11; have cr := hs.cellr (i := 5) rfl; have fr := blk_frozen hs.rb 5; have ne11 := hs.r11; clear hs)
    | (clear c11 cr fr ne11; go_at_call 31; (with_reducible refine (small2 k n6 t6 e6 false S6.out X6.out Y6.out).mono ?_); rintro e v6 ⟨rfl, hs⟩; have S7 := Aside0.mk (hs.put 6 (.int .i64 (low32 n6))); have c11 := cell_of_one hs.clo.b11; have cr := hs.cellr (i := 6) rfl; have fr := blk_frozen hs.rb 6; have ne11 := hs.r11; have c10 := cell_of_one hs.clo.b10; have ne10 := hs.r10; have ne44 := hs.r44; have c9 := cell_of_one hs.clo.b9; have c7 := cell_of_one hs.clo.b7; have ne9 := hs.r9; have ne7 := hs.r7; have zc0 := hs.r4.c0; have zc1 := hs.r4.c1; have zc2 := hs.r4.c2; have zc3 := hs.r4.c3; have zc4 := hs.r4.c4; have zc5 := hs.r4.c5; have zc6 := hs.r4.c6; have zf0 := hs.r4.fr 0; have zf1 := hs.r4.fr 1; have zf2 := hs.r4.fr 2; have zf3 := hs.r4.fr 3; have zf4 := hs.r4.fr 4; have zf5 := hs.r4.fr 5; have zf6 := hs.r4.fr 6; clear hs))
  refine bodyPost_ret (results_ct rfl _ _ w.heap.size 34 #[.int .u64 0, .int .i64 0, .int .i64 0, .int .u64 0, .int .u64 0, .int .i64 0, .int .i64 0] (0, 0) _ rfl (S7.out.r4.put (.int .u64 0) (.int .i64 0) (.int .i64 0) (.int .u64 0) (.int .u64 0) (.int .i64 0) (.int .i64 0)) Try.underlying34 rfl root_size) rfl ?_
  exact ⟨rfl, below_put7 S7.out.clo.be (Nat.le_refl _) _ _ _ _ _ _ _⟩
set_option maxHeartbeats 8000000 in
set_option maxRecDepth 100000 in
theorem root_Get.may_one (k : Nat) (a0 : Int) (A1 : Option Addr) (c1 : Nat) (l1 : List Int) (p1 : Int) (p2 : List Int) (n0 n1 n2 n3 n4 n5 n6 t0 t1 t2 t3 t4 t5 t6 e0 e1 e2 e3 e4 e5 e6 : Int) (b1 b2 b3 b4 b5 b6 b7 : Bool) (h0 : a0 = 1) (hb7 : b7 = false) (ht6 : t6 = (p2.length : Int)) (hm : root_may.f k n0 (low32 n1) (low32 n2) n3 n4 (low32 n5) (low32 n6) = some false) (hp : page_Get.f k a0 l1 = some (p1, p2, 0)) (x0 : leb_Get.f k p2 0 = some (n0, t0, e0)) (x1 : leb_Get.f k p2 t0 = some (n1, t1, e1)) (x2 : leb_Get.f k p2 t1 = some (n2, t2, e2)) (x3 : leb_Get.f k p2 t2 = some (n3, t3, e3)) (x4 : leb_Get.f k p2 t3 = some (n4, t4, e4)) (x5 : leb_Get.f k p2 t4 = some (n5, t5, e5)) (x6 : leb_Get.f k p2 t5 = some (n6, t6, e6)) (y0 : ((p1 != 1) || e0 != 0) = b1) (y1 : ((b1 || e1 != 0) || decide (n1 > 2147483648)) = b2) (y2 : ((b2 || e2 != 0) || decide (n2 > 2147483648)) = b3) (y3 : (b3 || e3 != 0) = b4) (y4 : (b4 || e4 != 0) = b5) (y5 : ((b5 || e5 != 0) || decide (n5 > 2147483648)) = b6) (y6 : ((b6 || e6 != 0) || decide (n6 > 2147483648)) = b7) (w : World) (hr1 : Kd.C (Kd.int .u8) w A1 l1.length l1) (hc1 : l1.length ≤ c1) :
    Calls Try.prog 15 #[.int .i64 a0, .slice A1 l1.length c1] w fun e w' => e = .returned (.tuple #[.agg #[.int .u64 0, .int .i64 0, .int .i64 0, .int .u64 0, .int .u64 0, .int .i64 0, .int .i64 0], .int .i64 5]) ∧ Below w.heap.size w w' := by
  have HR1 := Aside0.mk hr1
  have HC1 := Aside0.mk hc1
  have HP := Aside0.mk hp
  have X0 := Aside0.mk x0
  have X1 := Aside0.mk x1
  have X2 := Aside0.mk x2
  have X3 := Aside0.mk x3
  have X4 := Aside0.mk x4
  have X5 := Aside0.mk x5
  have X6 := Aside0.mk x6
  have Y0 := Aside0.mk y0
  have Y1 := Aside0.mk y1
  have Y2 := Aside0.mk y2
  have Y3 := Aside0.mk y3
  have Y4 := Aside0.mk y4
  have Y5 := Aside0.mk y5
  have Y6 := Aside0.mk y6
  clear hr1 hc1 hp x0 y0 x1 y1 x2 y2 x3 y3 x4 y4 x5 y5 x6 y6
  have q1 : (a0 != 0) = true := bne_iff_ne.mpr (by omega)
  have q2 : (a0 != 1) = false := bne_eq_false_iff_eq.mpr h0
  clear h0
  subst hb7
  have tl : (t6 != (p2.length : Int)) = false := bne_eq_false_iff_eq.mpr ht6
  have HM := Aside0.mk hm
  clear ht6 hm
  go_enter Try.func15, Try.ntmps15
  go_wp2_with (first
    | (go_at_call 9; (with_reducible refine (page_Get.calls k a0 A1 c1 l1 p1 p2 0 _ (Kd.C_alloc HR1.out _) HC1.out HP.out).mono ?_); rintro e w2 ⟨v, rfl, ho, _, hb⟩; obtain ⟨A2, c2, ev⟩ := Kd.R_slice ho; subst ev; have hro := Kd.R_lower ho (below_alloc (Below.refl w.heap.size w) (.cells #[.int .u64 0, .int .i64 0, .int .i64 0, .int .u64 0, .int .u64 0, .int .i64 0, .int .i64 0] 34)).size; have S0 := Aside0.mk (clo_start (w := w) (w2 := w2) w.heap.size A2 c2 p2 (p1 != 1) (below_step (below_alloc (Below.refl _ _) _) hb) hro ((rootb_new w (.int .u64 0) (.int .i64 0) (.int .i64 0) (.int .u64 0) (.int .u64 0) (.int .i64 0) (.int .i64 0)).below hb) (Nat.le_refl _)); clear ho hb hro)
    | (go_at_call 29; (with_reducible refine (number2 k n0 t0 e0 b1 S0.out X0.out Y0.out).mono ?_); rintro e v0 ⟨rfl, hs⟩; obtain ⟨gr, hgr⟩ : ∃ z, z = (w2.heap.size + 1 + 1 + 1 + 1) := ⟨_, rfl⟩; rw [← hgr] at hs ⊢; clear hgr; obtain ⟨g11, hg11⟩ : ∃ z, z = (w2.heap.size + 1 + 1 + 1) := ⟨_, rfl⟩; rw [← hg11] at hs ⊢; clear hg11; obtain ⟨g10, hg10⟩ : ∃ z, z = (w2.heap.size + 1 + 1) := ⟨_, rfl⟩; rw [← hg10] at hs ⊢; clear hg10; obtain ⟨g9, hg9⟩ : ∃ z, z = (w2.heap.size + 1) := ⟨_, rfl⟩; rw [← hg9] at hs ⊢; clear hg9; obtain ⟨g7, hg7⟩ : ∃ z, z = w2.heap.size := ⟨_, rfl⟩; rw [← hg7] at hs ⊢; clear hg7; have S1 := Aside0.mk (hs.put 0 (.int .u64 n0)); have c11 := cell_of_one hs.clo.b11; have cr := hs.cellr (i := 0) rfl; have fr := blk_frozen hs.rb 0; have ne11 := hs.r11; clear hs)
    | (clear c11 cr fr ne11; go_at_call 31; (with_reducible refine (small2 k n1 t1 e1 b2 S1.out X1.out Y1.out).mono ?_); rintro e v1 ⟨rfl, hs⟩; have S2 := Aside0.mk (hs.put 1 (.int .i64 (low32 n1))); have c11 := cell_of_one hs.clo.b11; have cr := hs.cellr (i := 1) rfl; have fr := blk_frozen hs.rb 1; have ne11 := hs.r11; clear hs)
    | (clear c11 cr fr ne11; go_at_call 31; (with_reducible refine (small2 k n2 t2 e2 b3 S2.out X2.out Y2.out).mono ?_); rintro e v2 ⟨rfl, hs⟩; have S3 := Aside0.mk (hs.put 2 (.int .i64 (low32 n2))); have c11 := cell_of_one hs.clo.b11; have cr := hs.cellr (i := 2) rfl; have fr := blk_frozen hs.rb 2; have ne11 := hs.r11; clear hs)
    | (clear c11 cr fr ne11; go_at_call 29; (with_reducible refine (number2 k n3 t3 e3 b4 S3.out X3.out Y3.out).mono ?_); rintro e v3 ⟨rfl, hs⟩; have S4 := Aside0.mk (hs.put 3 (.int .u64 n3)); have c11 := cell_of_one hs.clo.b11; have cr := hs.cellr (i := 3) rfl; have fr := blk_frozen hs.rb 3; have ne11 := hs.r11; clear hs)
    | (clear c11 cr fr ne11; go_at_call 29; (with_reducible refine (number2 k n4 t4 e4 b5 S4.out X4.out Y4.out).mono ?_); rintro e v4 ⟨rfl, hs⟩; have S5 := Aside0.mk (hs.put 4 (.int .u64 n4)); have c11 := cell_of_one hs.clo.b11; have cr := hs.cellr (i := 4) rfl; have fr := blk_frozen hs.rb 4; have ne11 := hs.r11; clear hs)
    | (clear c11 cr fr ne11; go_at_call 31; (with_reducible refine (small2 k n5 t5 e5 b6 S5.out X5.out Y5.out).mono ?_); rintro e v5 ⟨rfl, hs⟩; have S6 := Aside0.mk (hs.put 5 (.int .i64 (low32 n5))); have c11 := cell_of_one hs.clo.b11; have cr := hs.cellr (i := 5) rfl; have fr := blk_frozen hs.rb 5; have ne11 := hs.r11; clear hs)
    | (clear c11 cr fr ne11; go_at_call 31; (with_reducible refine (small2 k n6 t6 e6 false S6.out X6.out Y6.out).mono ?_); rintro e v6 ⟨rfl, hs⟩; have S7 := Aside0.mk (hs.put 6 (.int .i64 (low32 n6))); have c11 := cell_of_one hs.clo.b11; have cr := hs.cellr (i := 6) rfl; have fr := blk_frozen hs.rb 6; have ne11 := hs.r11; have c10 := cell_of_one hs.clo.b10; have ne10 := hs.r10; have ne44 := hs.r44; have c9 := cell_of_one hs.clo.b9; have c7 := cell_of_one hs.clo.b7; have ne9 := hs.r9; have ne7 := hs.r7; have cr0 := hs.cellr (i := 0) rfl; have cr1 := hs.cellr (i := 1) rfl; have cr2 := hs.cellr (i := 2) rfl; have cr3 := hs.cellr (i := 3) rfl; have cr4 := hs.cellr (i := 4) rfl; have cr5 := hs.cellr (i := 5) rfl; clear hs)
    | (go_at_call 24; (with_reducible refine (root_may.calls k n0 (low32 n1) (low32 n2) n3 n4 (low32 n5) (low32 n6) false _ HM.out).mono ?_); rintro e v7 ⟨rfl, hb⟩; have B7 := Aside0.mk (below_step S7.out.clo.be hb); have R7 := Aside0.mk (S7.out.r4.below hb); have Q7 := Aside0.mk (blk_below S7.out.rb hb); clear hb; have zc0 := R7.out.c0; have zc1 := R7.out.c1; have zc2 := R7.out.c2; have zc3 := R7.out.c3; have zc4 := R7.out.c4; have zc5 := R7.out.c5; have zc6 := R7.out.c6; have zf0 := R7.out.fr 0; have zf1 := R7.out.fr 1; have zf2 := R7.out.fr 2; have zf3 := R7.out.fr 3; have zf4 := R7.out.fr 4; have zf5 := R7.out.fr 5; have zf6 := R7.out.fr 6; ))
  refine bodyPost_ret (results_ct rfl _ _ w.heap.size 34 #[.int .u64 0, .int .i64 0, .int .i64 0, .int .u64 0, .int .u64 0, .int .i64 0, .int .i64 0] (0, 0) _ rfl (R7.out.put (.int .u64 0) (.int .i64 0) (.int .i64 0) (.int .u64 0) (.int .u64 0) (.int .i64 0) (.int .i64 0)) Try.underlying34 rfl root_size) rfl ?_
  exact ⟨rfl, below_put7 B7.out (Nat.le_refl _) _ _ _ _ _ _ _⟩
set_option maxHeartbeats 8000000 in
set_option maxRecDepth 100000 in
theorem root_Get.place_zero (k : Nat) (a0 : Int) (A1 : Option Addr) (c1 : Nat) (l1 : List Int) (p1 : Int) (p2 : List Int) (n0 n1 n2 n3 n4 n5 n6 t0 t1 t2 t3 t4 t5 t6 e0 e1 e2 e3 e4 e5 e6 : Int) (b1 b2 b3 b4 b5 b6 b7 : Bool) (h0 : a0 = 0) (hb7 : b7 = false) (ht6 : t6 = (p2.length : Int)) (hm : root_may.f k n0 (low32 n1) (low32 n2) n3 n4 (low32 n5) (low32 n6) = some true) (hpl : wrap64 (Int.tmod n0 2) ≠ a0) (hp : page_Get.f k a0 l1 = some (p1, p2, 0)) (x0 : leb_Get.f k p2 0 = some (n0, t0, e0)) (x1 : leb_Get.f k p2 t0 = some (n1, t1, e1)) (x2 : leb_Get.f k p2 t1 = some (n2, t2, e2)) (x3 : leb_Get.f k p2 t2 = some (n3, t3, e3)) (x4 : leb_Get.f k p2 t3 = some (n4, t4, e4)) (x5 : leb_Get.f k p2 t4 = some (n5, t5, e5)) (x6 : leb_Get.f k p2 t5 = some (n6, t6, e6)) (y0 : ((p1 != 1) || e0 != 0) = b1) (y1 : ((b1 || e1 != 0) || decide (n1 > 2147483648)) = b2) (y2 : ((b2 || e2 != 0) || decide (n2 > 2147483648)) = b3) (y3 : (b3 || e3 != 0) = b4) (y4 : (b4 || e4 != 0) = b5) (y5 : ((b5 || e5 != 0) || decide (n5 > 2147483648)) = b6) (y6 : ((b6 || e6 != 0) || decide (n6 > 2147483648)) = b7) (w : World) (hr1 : Kd.C (Kd.int .u8) w A1 l1.length l1) (hc1 : l1.length ≤ c1) :
    Calls Try.prog 15 #[.int .i64 a0, .slice A1 l1.length c1] w fun e w' => e = .returned (.tuple #[.agg #[.int .u64 0, .int .i64 0, .int .i64 0, .int .u64 0, .int .u64 0, .int .i64 0, .int .i64 0], .int .i64 5]) ∧ Below w.heap.size w w' := by
  have HR1 := Aside0.mk hr1
  have HC1 := Aside0.mk hc1
  have HP := Aside0.mk hp
  have X0 := Aside0.mk x0
  have X1 := Aside0.mk x1
  have X2 := Aside0.mk x2
  have X3 := Aside0.mk x3
  have X4 := Aside0.mk x4
  have X5 := Aside0.mk x5
  have X6 := Aside0.mk x6
  have Y0 := Aside0.mk y0
  have Y1 := Aside0.mk y1
  have Y2 := Aside0.mk y2
  have Y3 := Aside0.mk y3
  have Y4 := Aside0.mk y4
  have Y5 := Aside0.mk y5
  have Y6 := Aside0.mk y6
  clear hr1 hc1 hp x0 y0 x1 y1 x2 y2 x3 y3 x4 y4 x5 y5 x6 y6
  have q1 : (a0 != 0) = false := bne_eq_false_iff_eq.mpr h0
  clear h0
  subst hb7
  have tl : (t6 != (p2.length : Int)) = false := bne_eq_false_iff_eq.mpr ht6
  have HM := Aside0.mk hm
  have pl : (wrap64 (Int.tmod n0 2) != a0) = true := bne_iff_ne.mpr hpl
  clear ht6 hm hpl
  go_enter Try.func15, Try.ntmps15
  go_wp2_with (first
    | (go_at_call 9; (with_reducible refine (page_Get.calls k a0 A1 c1 l1 p1 p2 0 _ (Kd.C_alloc HR1.out _) HC1.out HP.out).mono ?_); rintro e w2 ⟨v, rfl, ho, _, hb⟩; obtain ⟨A2, c2, ev⟩ := Kd.R_slice ho; subst ev; have hro := Kd.R_lower ho (below_alloc (Below.refl w.heap.size w) (.cells #[.int .u64 0, .int .i64 0, .int .i64 0, .int .u64 0, .int .u64 0, .int .i64 0, .int .i64 0] 34)).size; have S0 := Aside0.mk (clo_start (w := w) (w2 := w2) w.heap.size A2 c2 p2 (p1 != 1) (below_step (below_alloc (Below.refl _ _) _) hb) hro ((rootb_new w (.int .u64 0) (.int .i64 0) (.int .i64 0) (.int .u64 0) (.int .u64 0) (.int .i64 0) (.int .i64 0)).below hb) (Nat.le_refl _)); clear ho hb hro)
    | (go_at_call 29; (with_reducible refine (number2 k n0 t0 e0 b1 S0.out X0.out Y0.out).mono ?_); rintro e v0 ⟨rfl, hs⟩; obtain ⟨gr, hgr⟩ : ∃ z, z = (w2.heap.size + 1 + 1 + 1 + 1) := ⟨_, rfl⟩; rw [← hgr] at hs ⊢; clear hgr; obtain ⟨g11, hg11⟩ : ∃ z, z = (w2.heap.size + 1 + 1 + 1) := ⟨_, rfl⟩; rw [← hg11] at hs ⊢; clear hg11; obtain ⟨g10, hg10⟩ : ∃ z, z = (w2.heap.size + 1 + 1) := ⟨_, rfl⟩; rw [← hg10] at hs ⊢; clear hg10; obtain ⟨g9, hg9⟩ : ∃ z, z = (w2.heap.size + 1) := ⟨_, rfl⟩; rw [← hg9] at hs ⊢; clear hg9; obtain ⟨g7, hg7⟩ : ∃ z, z = w2.heap.size := ⟨_, rfl⟩; rw [← hg7] at hs ⊢; clear hg7; have S1 := Aside0.mk (hs.put 0 (.int .u64 n0)); have c11 := cell_of_one hs.clo.b11; have cr := hs.cellr (i := 0) rfl; have fr := blk_frozen hs.rb 0; have ne11 := hs.r11; clear hs)
    | (clear c11 cr fr ne11; go_at_call 31; (with_reducible refine (small2 k n1 t1 e1 b2 S1.out X1.out Y1.out).mono ?_); rintro e v1 ⟨rfl, hs⟩; have S2 := Aside0.mk (hs.put 1 (.int .i64 (low32 n1))); have c11 := cell_of_one hs.clo.b11; have cr := hs.cellr (i := 1) rfl; have fr := blk_frozen hs.rb 1; have ne11 := hs.r11; clear hs)
    | (clear c11 cr fr ne11; go_at_call 31; (with_reducible refine (small2 k n2 t2 e2 b3 S2.out X2.out Y2.out).mono ?_); rintro e v2 ⟨rfl, hs⟩; have S3 := Aside0.mk (hs.put 2 (.int .i64 (low32 n2))); have c11 := cell_of_one hs.clo.b11; have cr := hs.cellr (i := 2) rfl; have fr := blk_frozen hs.rb 2; have ne11 := hs.r11; clear hs)
    | (clear c11 cr fr ne11; go_at_call 29; (with_reducible refine (number2 k n3 t3 e3 b4 S3.out X3.out Y3.out).mono ?_); rintro e v3 ⟨rfl, hs⟩; have S4 := Aside0.mk (hs.put 3 (.int .u64 n3)); have c11 := cell_of_one hs.clo.b11; have cr := hs.cellr (i := 3) rfl; have fr := blk_frozen hs.rb 3; have ne11 := hs.r11; clear hs)
    | (clear c11 cr fr ne11; go_at_call 29; (with_reducible refine (number2 k n4 t4 e4 b5 S4.out X4.out Y4.out).mono ?_); rintro e v4 ⟨rfl, hs⟩; have S5 := Aside0.mk (hs.put 4 (.int .u64 n4)); have c11 := cell_of_one hs.clo.b11; have cr := hs.cellr (i := 4) rfl; have fr := blk_frozen hs.rb 4; have ne11 := hs.r11; clear hs)
    | (clear c11 cr fr ne11; go_at_call 31; (with_reducible refine (small2 k n5 t5 e5 b6 S5.out X5.out Y5.out).mono ?_); rintro e v5 ⟨rfl, hs⟩; have S6 := Aside0.mk (hs.put 5 (.int .i64 (low32 n5))); have c11 := cell_of_one hs.clo.b11; have cr := hs.cellr (i := 5) rfl; have fr := blk_frozen hs.rb 5; have ne11 := hs.r11; clear hs)
    | (clear c11 cr fr ne11; go_at_call 31; (with_reducible refine (small2 k n6 t6 e6 false S6.out X6.out Y6.out).mono ?_); rintro e v6 ⟨rfl, hs⟩; have S7 := Aside0.mk (hs.put 6 (.int .i64 (low32 n6))); have c11 := cell_of_one hs.clo.b11; have cr := hs.cellr (i := 6) rfl; have fr := blk_frozen hs.rb 6; have ne11 := hs.r11; have c10 := cell_of_one hs.clo.b10; have ne10 := hs.r10; have ne44 := hs.r44; have c9 := cell_of_one hs.clo.b9; have c7 := cell_of_one hs.clo.b7; have ne9 := hs.r9; have ne7 := hs.r7; have cr0 := hs.cellr (i := 0) rfl; have cr1 := hs.cellr (i := 1) rfl; have cr2 := hs.cellr (i := 2) rfl; have cr3 := hs.cellr (i := 3) rfl; have cr4 := hs.cellr (i := 4) rfl; have cr5 := hs.cellr (i := 5) rfl; clear hs)
    | (go_at_call 24; (with_reducible refine (root_may.calls k n0 (low32 n1) (low32 n2) n3 n4 (low32 n5) (low32 n6) true _ HM.out).mono ?_); rintro e v7 ⟨rfl, hb⟩; have B7 := Aside0.mk (below_step S7.out.clo.be hb); have R7 := Aside0.mk (S7.out.r4.below hb); have Q7 := Aside0.mk (blk_below S7.out.rb hb); clear hb; have hq7 : Rootb v7 gr (.int .u64 n0) (.int .i64 (low32 n1)) (.int .i64 (low32 n2)) (.int .u64 n3) (.int .u64 n4) (.int .i64 (low32 n5)) (.int .i64 (low32 n6)) := Q7.out; have d0 := hq7.c0; have d1 := hq7.c1; have d2 := hq7.c2; have d3 := hq7.c3; have d4 := hq7.c4; have d5 := hq7.c5; have d6 := hq7.c6; clear hq7; )
    | (go_at_call 13; (with_reducible refine (root_Place.calls n0 (low32 n1) (low32 n2) n3 n4 (low32 n5) (low32 n6) (wrap64 (Int.tmod n0 2)) _ rfl).mono ?_); rintro e v8 ⟨rfl, hb⟩; have B8 := Aside0.mk (below_step B7.out hb); have R8 := Aside0.mk (R7.out.below hb); have Q8 := Aside0.mk (blk_below Q7.out hb); clear hb; have zc0 := R8.out.c0; have zc1 := R8.out.c1; have zc2 := R8.out.c2; have zc3 := R8.out.c3; have zc4 := R8.out.c4; have zc5 := R8.out.c5; have zc6 := R8.out.c6; have zf0 := R8.out.fr 0; have zf1 := R8.out.fr 1; have zf2 := R8.out.fr 2; have zf3 := R8.out.fr 3; have zf4 := R8.out.fr 4; have zf5 := R8.out.fr 5; have zf6 := R8.out.fr 6; ))
  refine bodyPost_ret (results_ct rfl _ _ w.heap.size 34 #[.int .u64 0, .int .i64 0, .int .i64 0, .int .u64 0, .int .u64 0, .int .i64 0, .int .i64 0] (0, 0) _ rfl (R8.out.put (.int .u64 0) (.int .i64 0) (.int .i64 0) (.int .u64 0) (.int .u64 0) (.int .i64 0) (.int .i64 0)) Try.underlying34 rfl root_size) rfl ?_
  exact ⟨rfl, below_put7 B8.out (Nat.le_refl _) _ _ _ _ _ _ _⟩
set_option maxHeartbeats 8000000 in
set_option maxRecDepth 100000 in
theorem root_Get.ok_zero (k : Nat) (a0 : Int) (A1 : Option Addr) (c1 : Nat) (l1 : List Int) (p1 : Int) (p2 : List Int) (n0 n1 n2 n3 n4 n5 n6 t0 t1 t2 t3 t4 t5 t6 e0 e1 e2 e3 e4 e5 e6 : Int) (b1 b2 b3 b4 b5 b6 b7 : Bool) (h0 : a0 = 0) (hb7 : b7 = false) (ht6 : t6 = (p2.length : Int)) (hm : root_may.f k n0 (low32 n1) (low32 n2) n3 n4 (low32 n5) (low32 n6) = some true) (hpl : wrap64 (Int.tmod n0 2) = a0) (hp : page_Get.f k a0 l1 = some (p1, p2, 0)) (x0 : leb_Get.f k p2 0 = some (n0, t0, e0)) (x1 : leb_Get.f k p2 t0 = some (n1, t1, e1)) (x2 : leb_Get.f k p2 t1 = some (n2, t2, e2)) (x3 : leb_Get.f k p2 t2 = some (n3, t3, e3)) (x4 : leb_Get.f k p2 t3 = some (n4, t4, e4)) (x5 : leb_Get.f k p2 t4 = some (n5, t5, e5)) (x6 : leb_Get.f k p2 t5 = some (n6, t6, e6)) (y0 : ((p1 != 1) || e0 != 0) = b1) (y1 : ((b1 || e1 != 0) || decide (n1 > 2147483648)) = b2) (y2 : ((b2 || e2 != 0) || decide (n2 > 2147483648)) = b3) (y3 : (b3 || e3 != 0) = b4) (y4 : (b4 || e4 != 0) = b5) (y5 : ((b5 || e5 != 0) || decide (n5 > 2147483648)) = b6) (y6 : ((b6 || e6 != 0) || decide (n6 > 2147483648)) = b7) (w : World) (hr1 : Kd.C (Kd.int .u8) w A1 l1.length l1) (hc1 : l1.length ≤ c1) :
    Calls Try.prog 15 #[.int .i64 a0, .slice A1 l1.length c1] w fun e w' => e = .returned (.tuple #[.agg #[.int .u64 n0, .int .i64 (low32 n1), .int .i64 (low32 n2), .int .u64 n3, .int .u64 n4, .int .i64 (low32 n5), .int .i64 (low32 n6)], .int .i64 0]) ∧ Below w.heap.size w w' := by
  have HR1 := Aside0.mk hr1
  have HC1 := Aside0.mk hc1
  have HP := Aside0.mk hp
  have X0 := Aside0.mk x0
  have X1 := Aside0.mk x1
  have X2 := Aside0.mk x2
  have X3 := Aside0.mk x3
  have X4 := Aside0.mk x4
  have X5 := Aside0.mk x5
  have X6 := Aside0.mk x6
  have Y0 := Aside0.mk y0
  have Y1 := Aside0.mk y1
  have Y2 := Aside0.mk y2
  have Y3 := Aside0.mk y3
  have Y4 := Aside0.mk y4
  have Y5 := Aside0.mk y5
  have Y6 := Aside0.mk y6
  clear hr1 hc1 hp x0 y0 x1 y1 x2 y2 x3 y3 x4 y4 x5 y5 x6 y6
  have q1 : (a0 != 0) = false := bne_eq_false_iff_eq.mpr h0
  clear h0
  subst hb7
  have tl : (t6 != (p2.length : Int)) = false := bne_eq_false_iff_eq.mpr ht6
  have HM := Aside0.mk hm
  have pl : (wrap64 (Int.tmod n0 2) != a0) = false := bne_eq_false_iff_eq.mpr hpl
  clear ht6 hm hpl
  go_enter Try.func15, Try.ntmps15
  go_wp2_with (first
    | (go_at_call 9; (with_reducible refine (page_Get.calls k a0 A1 c1 l1 p1 p2 0 _ (Kd.C_alloc HR1.out _) HC1.out HP.out).mono ?_); rintro e w2 ⟨v, rfl, ho, _, hb⟩; obtain ⟨A2, c2, ev⟩ := Kd.R_slice ho; subst ev; have hro := Kd.R_lower ho (below_alloc (Below.refl w.heap.size w) (.cells #[.int .u64 0, .int .i64 0, .int .i64 0, .int .u64 0, .int .u64 0, .int .i64 0, .int .i64 0] 34)).size; have S0 := Aside0.mk (clo_start (w := w) (w2 := w2) w.heap.size A2 c2 p2 (p1 != 1) (below_step (below_alloc (Below.refl _ _) _) hb) hro ((rootb_new w (.int .u64 0) (.int .i64 0) (.int .i64 0) (.int .u64 0) (.int .u64 0) (.int .i64 0) (.int .i64 0)).below hb) (Nat.le_refl _)); clear ho hb hro)
    | (go_at_call 29; (with_reducible refine (number2 k n0 t0 e0 b1 S0.out X0.out Y0.out).mono ?_); rintro e v0 ⟨rfl, hs⟩; obtain ⟨gr, hgr⟩ : ∃ z, z = (w2.heap.size + 1 + 1 + 1 + 1) := ⟨_, rfl⟩; rw [← hgr] at hs ⊢; clear hgr; obtain ⟨g11, hg11⟩ : ∃ z, z = (w2.heap.size + 1 + 1 + 1) := ⟨_, rfl⟩; rw [← hg11] at hs ⊢; clear hg11; obtain ⟨g10, hg10⟩ : ∃ z, z = (w2.heap.size + 1 + 1) := ⟨_, rfl⟩; rw [← hg10] at hs ⊢; clear hg10; obtain ⟨g9, hg9⟩ : ∃ z, z = (w2.heap.size + 1) := ⟨_, rfl⟩; rw [← hg9] at hs ⊢; clear hg9; obtain ⟨g7, hg7⟩ : ∃ z, z = w2.heap.size := ⟨_, rfl⟩; rw [← hg7] at hs ⊢; clear hg7; have S1 := Aside0.mk (hs.put 0 (.int .u64 n0)); have c11 := cell_of_one hs.clo.b11; have cr := hs.cellr (i := 0) rfl; have fr := blk_frozen hs.rb 0; have ne11 := hs.r11; clear hs)
    | (clear c11 cr fr ne11; go_at_call 31; (with_reducible refine (small2 k n1 t1 e1 b2 S1.out X1.out Y1.out).mono ?_); rintro e v1 ⟨rfl, hs⟩; have S2 := Aside0.mk (hs.put 1 (.int .i64 (low32 n1))); have c11 := cell_of_one hs.clo.b11; have cr := hs.cellr (i := 1) rfl; have fr := blk_frozen hs.rb 1; have ne11 := hs.r11; clear hs)
    | (clear c11 cr fr ne11; go_at_call 31; (with_reducible refine (small2 k n2 t2 e2 b3 S2.out X2.out Y2.out).mono ?_); rintro e v2 ⟨rfl, hs⟩; have S3 := Aside0.mk (hs.put 2 (.int .i64 (low32 n2))); have c11 := cell_of_one hs.clo.b11; have cr := hs.cellr (i := 2) rfl; have fr := blk_frozen hs.rb 2; have ne11 := hs.r11; clear hs)
    | (clear c11 cr fr ne11; go_at_call 29; (with_reducible refine (number2 k n3 t3 e3 b4 S3.out X3.out Y3.out).mono ?_); rintro e v3 ⟨rfl, hs⟩; have S4 := Aside0.mk (hs.put 3 (.int .u64 n3)); have c11 := cell_of_one hs.clo.b11; have cr := hs.cellr (i := 3) rfl; have fr := blk_frozen hs.rb 3; have ne11 := hs.r11; clear hs)
    | (clear c11 cr fr ne11; go_at_call 29; (with_reducible refine (number2 k n4 t4 e4 b5 S4.out X4.out Y4.out).mono ?_); rintro e v4 ⟨rfl, hs⟩; have S5 := Aside0.mk (hs.put 4 (.int .u64 n4)); have c11 := cell_of_one hs.clo.b11; have cr := hs.cellr (i := 4) rfl; have fr := blk_frozen hs.rb 4; have ne11 := hs.r11; clear hs)
    | (clear c11 cr fr ne11; go_at_call 31; (with_reducible refine (small2 k n5 t5 e5 b6 S5.out X5.out Y5.out).mono ?_); rintro e v5 ⟨rfl, hs⟩; have S6 := Aside0.mk (hs.put 5 (.int .i64 (low32 n5))); have c11 := cell_of_one hs.clo.b11; have cr := hs.cellr (i := 5) rfl; have fr := blk_frozen hs.rb 5; have ne11 := hs.r11; clear hs)
    | (clear c11 cr fr ne11; go_at_call 31; (with_reducible refine (small2 k n6 t6 e6 false S6.out X6.out Y6.out).mono ?_); rintro e v6 ⟨rfl, hs⟩; have S7 := Aside0.mk (hs.put 6 (.int .i64 (low32 n6))); have c11 := cell_of_one hs.clo.b11; have cr := hs.cellr (i := 6) rfl; have fr := blk_frozen hs.rb 6; have ne11 := hs.r11; have c10 := cell_of_one hs.clo.b10; have ne10 := hs.r10; have ne44 := hs.r44; have c9 := cell_of_one hs.clo.b9; have c7 := cell_of_one hs.clo.b7; have ne9 := hs.r9; have ne7 := hs.r7; have cr0 := hs.cellr (i := 0) rfl; have cr1 := hs.cellr (i := 1) rfl; have cr2 := hs.cellr (i := 2) rfl; have cr3 := hs.cellr (i := 3) rfl; have cr4 := hs.cellr (i := 4) rfl; have cr5 := hs.cellr (i := 5) rfl; clear hs)
    | (go_at_call 24; (with_reducible refine (root_may.calls k n0 (low32 n1) (low32 n2) n3 n4 (low32 n5) (low32 n6) true _ HM.out).mono ?_); rintro e v7 ⟨rfl, hb⟩; have B7 := Aside0.mk (below_step S7.out.clo.be hb); have R7 := Aside0.mk (S7.out.r4.below hb); have Q7 := Aside0.mk (blk_below S7.out.rb hb); clear hb; have hq7 : Rootb v7 gr (.int .u64 n0) (.int .i64 (low32 n1)) (.int .i64 (low32 n2)) (.int .u64 n3) (.int .u64 n4) (.int .i64 (low32 n5)) (.int .i64 (low32 n6)) := Q7.out; have d0 := hq7.c0; have d1 := hq7.c1; have d2 := hq7.c2; have d3 := hq7.c3; have d4 := hq7.c4; have d5 := hq7.c5; have d6 := hq7.c6; clear hq7; )
    | (go_at_call 13; (with_reducible refine (root_Place.calls n0 (low32 n1) (low32 n2) n3 n4 (low32 n5) (low32 n6) (wrap64 (Int.tmod n0 2)) _ rfl).mono ?_); rintro e v8 ⟨rfl, hb⟩; have B8 := Aside0.mk (below_step B7.out hb); have R8 := Aside0.mk (R7.out.below hb); have Q8 := Aside0.mk (blk_below Q7.out hb); clear hb; have zc0 := R8.out.c0; have zc1 := R8.out.c1; have zc2 := R8.out.c2; have zc3 := R8.out.c3; have zc4 := R8.out.c4; have zc5 := R8.out.c5; have zc6 := R8.out.c6; have zf0 := R8.out.fr 0; have zf1 := R8.out.fr 1; have zf2 := R8.out.fr 2; have zf3 := R8.out.fr 3; have zf4 := R8.out.fr 4; have zf5 := R8.out.fr 5; have zf6 := R8.out.fr 6; have hq8 : Rootb v8 gr (.int .u64 n0) (.int .i64 (low32 n1)) (.int .i64 (low32 n2)) (.int .u64 n3) (.int .u64 n4) (.int .i64 (low32 n5)) (.int .i64 (low32 n6)) := Q8.out; have f0 := hq8.c0; have f1 := hq8.c1; have f2 := hq8.c2; have f3 := hq8.c3; have f4 := hq8.c4; have f5 := hq8.c5; have f6 := hq8.c6; clear hq8; ))
  refine bodyPost_ret (results_ct rfl _ _ w.heap.size 34 #[.int .u64 n0, .int .i64 (low32 n1), .int .i64 (low32 n2), .int .u64 n3, .int .u64 n4, .int .i64 (low32 n5), .int .i64 (low32 n6)] (0, 0) _ rfl (R8.out.put (.int .u64 n0) (.int .i64 (low32 n1)) (.int .i64 (low32 n2)) (.int .u64 n3) (.int .u64 n4) (.int .i64 (low32 n5)) (.int .i64 (low32 n6))) Try.underlying34 rfl root_size) rfl ?_
  exact ⟨rfl, below_put7 B8.out (Nat.le_refl _) _ _ _ _ _ _ _⟩
set_option maxHeartbeats 8000000 in
set_option maxRecDepth 100000 in
theorem root_Get.place_one (k : Nat) (a0 : Int) (A1 : Option Addr) (c1 : Nat) (l1 : List Int) (p1 : Int) (p2 : List Int) (n0 n1 n2 n3 n4 n5 n6 t0 t1 t2 t3 t4 t5 t6 e0 e1 e2 e3 e4 e5 e6 : Int) (b1 b2 b3 b4 b5 b6 b7 : Bool) (h0 : a0 = 1) (hb7 : b7 = false) (ht6 : t6 = (p2.length : Int)) (hm : root_may.f k n0 (low32 n1) (low32 n2) n3 n4 (low32 n5) (low32 n6) = some true) (hpl : wrap64 (Int.tmod n0 2) ≠ a0) (hp : page_Get.f k a0 l1 = some (p1, p2, 0)) (x0 : leb_Get.f k p2 0 = some (n0, t0, e0)) (x1 : leb_Get.f k p2 t0 = some (n1, t1, e1)) (x2 : leb_Get.f k p2 t1 = some (n2, t2, e2)) (x3 : leb_Get.f k p2 t2 = some (n3, t3, e3)) (x4 : leb_Get.f k p2 t3 = some (n4, t4, e4)) (x5 : leb_Get.f k p2 t4 = some (n5, t5, e5)) (x6 : leb_Get.f k p2 t5 = some (n6, t6, e6)) (y0 : ((p1 != 1) || e0 != 0) = b1) (y1 : ((b1 || e1 != 0) || decide (n1 > 2147483648)) = b2) (y2 : ((b2 || e2 != 0) || decide (n2 > 2147483648)) = b3) (y3 : (b3 || e3 != 0) = b4) (y4 : (b4 || e4 != 0) = b5) (y5 : ((b5 || e5 != 0) || decide (n5 > 2147483648)) = b6) (y6 : ((b6 || e6 != 0) || decide (n6 > 2147483648)) = b7) (w : World) (hr1 : Kd.C (Kd.int .u8) w A1 l1.length l1) (hc1 : l1.length ≤ c1) :
    Calls Try.prog 15 #[.int .i64 a0, .slice A1 l1.length c1] w fun e w' => e = .returned (.tuple #[.agg #[.int .u64 0, .int .i64 0, .int .i64 0, .int .u64 0, .int .u64 0, .int .i64 0, .int .i64 0], .int .i64 5]) ∧ Below w.heap.size w w' := by
  have HR1 := Aside0.mk hr1
  have HC1 := Aside0.mk hc1
  have HP := Aside0.mk hp
  have X0 := Aside0.mk x0
  have X1 := Aside0.mk x1
  have X2 := Aside0.mk x2
  have X3 := Aside0.mk x3
  have X4 := Aside0.mk x4
  have X5 := Aside0.mk x5
  have X6 := Aside0.mk x6
  have Y0 := Aside0.mk y0
  have Y1 := Aside0.mk y1
  have Y2 := Aside0.mk y2
  have Y3 := Aside0.mk y3
  have Y4 := Aside0.mk y4
  have Y5 := Aside0.mk y5
  have Y6 := Aside0.mk y6
  clear hr1 hc1 hp x0 y0 x1 y1 x2 y2 x3 y3 x4 y4 x5 y5 x6 y6
  have q1 : (a0 != 0) = true := bne_iff_ne.mpr (by omega)
  have q2 : (a0 != 1) = false := bne_eq_false_iff_eq.mpr h0
  clear h0
  subst hb7
  have tl : (t6 != (p2.length : Int)) = false := bne_eq_false_iff_eq.mpr ht6
  have HM := Aside0.mk hm
  have pl : (wrap64 (Int.tmod n0 2) != a0) = true := bne_iff_ne.mpr hpl
  clear ht6 hm hpl
  go_enter Try.func15, Try.ntmps15
  go_wp2_with (first
    | (go_at_call 9; (with_reducible refine (page_Get.calls k a0 A1 c1 l1 p1 p2 0 _ (Kd.C_alloc HR1.out _) HC1.out HP.out).mono ?_); rintro e w2 ⟨v, rfl, ho, _, hb⟩; obtain ⟨A2, c2, ev⟩ := Kd.R_slice ho; subst ev; have hro := Kd.R_lower ho (below_alloc (Below.refl w.heap.size w) (.cells #[.int .u64 0, .int .i64 0, .int .i64 0, .int .u64 0, .int .u64 0, .int .i64 0, .int .i64 0] 34)).size; have S0 := Aside0.mk (clo_start (w := w) (w2 := w2) w.heap.size A2 c2 p2 (p1 != 1) (below_step (below_alloc (Below.refl _ _) _) hb) hro ((rootb_new w (.int .u64 0) (.int .i64 0) (.int .i64 0) (.int .u64 0) (.int .u64 0) (.int .i64 0) (.int .i64 0)).below hb) (Nat.le_refl _)); clear ho hb hro)
    | (go_at_call 29; (with_reducible refine (number2 k n0 t0 e0 b1 S0.out X0.out Y0.out).mono ?_); rintro e v0 ⟨rfl, hs⟩; obtain ⟨gr, hgr⟩ : ∃ z, z = (w2.heap.size + 1 + 1 + 1 + 1) := ⟨_, rfl⟩; rw [← hgr] at hs ⊢; clear hgr; obtain ⟨g11, hg11⟩ : ∃ z, z = (w2.heap.size + 1 + 1 + 1) := ⟨_, rfl⟩; rw [← hg11] at hs ⊢; clear hg11; obtain ⟨g10, hg10⟩ : ∃ z, z = (w2.heap.size + 1 + 1) := ⟨_, rfl⟩; rw [← hg10] at hs ⊢; clear hg10; obtain ⟨g9, hg9⟩ : ∃ z, z = (w2.heap.size + 1) := ⟨_, rfl⟩; rw [← hg9] at hs ⊢; clear hg9; obtain ⟨g7, hg7⟩ : ∃ z, z = w2.heap.size := ⟨_, rfl⟩; rw [← hg7] at hs ⊢; clear hg7; have S1 := Aside0.mk (hs.put 0 (.int .u64 n0)); have c11 := cell_of_one hs.clo.b11; have cr := hs.cellr (i := 0) rfl; have fr := blk_frozen hs.rb 0; have ne11 := hs.r11; clear hs)
    | (clear c11 cr fr ne11; go_at_call 31; (with_reducible refine (small2 k n1 t1 e1 b2 S1.out X1.out Y1.out).mono ?_); rintro e v1 ⟨rfl, hs⟩; have S2 := Aside0.mk (hs.put 1 (.int .i64 (low32 n1))); have c11 := cell_of_one hs.clo.b11; have cr := hs.cellr (i := 1) rfl; have fr := blk_frozen hs.rb 1; have ne11 := hs.r11; clear hs)
    | (clear c11 cr fr ne11; go_at_call 31; (with_reducible refine (small2 k n2 t2 e2 b3 S2.out X2.out Y2.out).mono ?_); rintro e v2 ⟨rfl, hs⟩; have S3 := Aside0.mk (hs.put 2 (.int .i64 (low32 n2))); have c11 := cell_of_one hs.clo.b11; have cr := hs.cellr (i := 2) rfl; have fr := blk_frozen hs.rb 2; have ne11 := hs.r11; clear hs)
    | (clear c11 cr fr ne11; go_at_call 29; (with_reducible refine (number2 k n3 t3 e3 b4 S3.out X3.out Y3.out).mono ?_); rintro e v3 ⟨rfl, hs⟩; have S4 := Aside0.mk (hs.put 3 (.int .u64 n3)); have c11 := cell_of_one hs.clo.b11; have cr := hs.cellr (i := 3) rfl; have fr := blk_frozen hs.rb 3; have ne11 := hs.r11; clear hs)
    | (clear c11 cr fr ne11; go_at_call 29; (with_reducible refine (number2 k n4 t4 e4 b5 S4.out X4.out Y4.out).mono ?_); rintro e v4 ⟨rfl, hs⟩; have S5 := Aside0.mk (hs.put 4 (.int .u64 n4)); have c11 := cell_of_one hs.clo.b11; have cr := hs.cellr (i := 4) rfl; have fr := blk_frozen hs.rb 4; have ne11 := hs.r11; clear hs)
    | (clear c11 cr fr ne11; go_at_call 31; (with_reducible refine (small2 k n5 t5 e5 b6 S5.out X5.out Y5.out).mono ?_); rintro e v5 ⟨rfl, hs⟩; have S6 := Aside0.mk (hs.put 5 (.int .i64 (low32 n5))); have c11 := cell_of_one hs.clo.b11; have cr := hs.cellr (i := 5) rfl; have fr := blk_frozen hs.rb 5; have ne11 := hs.r11; clear hs)
    | (clear c11 cr fr ne11; go_at_call 31; (with_reducible refine (small2 k n6 t6 e6 false S6.out X6.out Y6.out).mono ?_); rintro e v6 ⟨rfl, hs⟩; have S7 := Aside0.mk (hs.put 6 (.int .i64 (low32 n6))); have c11 := cell_of_one hs.clo.b11; have cr := hs.cellr (i := 6) rfl; have fr := blk_frozen hs.rb 6; have ne11 := hs.r11; have c10 := cell_of_one hs.clo.b10; have ne10 := hs.r10; have ne44 := hs.r44; have c9 := cell_of_one hs.clo.b9; have c7 := cell_of_one hs.clo.b7; have ne9 := hs.r9; have ne7 := hs.r7; have cr0 := hs.cellr (i := 0) rfl; have cr1 := hs.cellr (i := 1) rfl; have cr2 := hs.cellr (i := 2) rfl; have cr3 := hs.cellr (i := 3) rfl; have cr4 := hs.cellr (i := 4) rfl; have cr5 := hs.cellr (i := 5) rfl; clear hs)
    | (go_at_call 24; (with_reducible refine (root_may.calls k n0 (low32 n1) (low32 n2) n3 n4 (low32 n5) (low32 n6) true _ HM.out).mono ?_); rintro e v7 ⟨rfl, hb⟩; have B7 := Aside0.mk (below_step S7.out.clo.be hb); have R7 := Aside0.mk (S7.out.r4.below hb); have Q7 := Aside0.mk (blk_below S7.out.rb hb); clear hb; have hq7 : Rootb v7 gr (.int .u64 n0) (.int .i64 (low32 n1)) (.int .i64 (low32 n2)) (.int .u64 n3) (.int .u64 n4) (.int .i64 (low32 n5)) (.int .i64 (low32 n6)) := Q7.out; have d0 := hq7.c0; have d1 := hq7.c1; have d2 := hq7.c2; have d3 := hq7.c3; have d4 := hq7.c4; have d5 := hq7.c5; have d6 := hq7.c6; clear hq7; )
    | (go_at_call 13; (with_reducible refine (root_Place.calls n0 (low32 n1) (low32 n2) n3 n4 (low32 n5) (low32 n6) (wrap64 (Int.tmod n0 2)) _ rfl).mono ?_); rintro e v8 ⟨rfl, hb⟩; have B8 := Aside0.mk (below_step B7.out hb); have R8 := Aside0.mk (R7.out.below hb); have Q8 := Aside0.mk (blk_below Q7.out hb); clear hb; have zc0 := R8.out.c0; have zc1 := R8.out.c1; have zc2 := R8.out.c2; have zc3 := R8.out.c3; have zc4 := R8.out.c4; have zc5 := R8.out.c5; have zc6 := R8.out.c6; have zf0 := R8.out.fr 0; have zf1 := R8.out.fr 1; have zf2 := R8.out.fr 2; have zf3 := R8.out.fr 3; have zf4 := R8.out.fr 4; have zf5 := R8.out.fr 5; have zf6 := R8.out.fr 6; ))
  refine bodyPost_ret (results_ct rfl _ _ w.heap.size 34 #[.int .u64 0, .int .i64 0, .int .i64 0, .int .u64 0, .int .u64 0, .int .i64 0, .int .i64 0] (0, 0) _ rfl (R8.out.put (.int .u64 0) (.int .i64 0) (.int .i64 0) (.int .u64 0) (.int .u64 0) (.int .i64 0) (.int .i64 0)) Try.underlying34 rfl root_size) rfl ?_
  exact ⟨rfl, below_put7 B8.out (Nat.le_refl _) _ _ _ _ _ _ _⟩
set_option maxHeartbeats 8000000 in
set_option maxRecDepth 100000 in
theorem root_Get.ok_one (k : Nat) (a0 : Int) (A1 : Option Addr) (c1 : Nat) (l1 : List Int) (p1 : Int) (p2 : List Int) (n0 n1 n2 n3 n4 n5 n6 t0 t1 t2 t3 t4 t5 t6 e0 e1 e2 e3 e4 e5 e6 : Int) (b1 b2 b3 b4 b5 b6 b7 : Bool) (h0 : a0 = 1) (hb7 : b7 = false) (ht6 : t6 = (p2.length : Int)) (hm : root_may.f k n0 (low32 n1) (low32 n2) n3 n4 (low32 n5) (low32 n6) = some true) (hpl : wrap64 (Int.tmod n0 2) = a0) (hp : page_Get.f k a0 l1 = some (p1, p2, 0)) (x0 : leb_Get.f k p2 0 = some (n0, t0, e0)) (x1 : leb_Get.f k p2 t0 = some (n1, t1, e1)) (x2 : leb_Get.f k p2 t1 = some (n2, t2, e2)) (x3 : leb_Get.f k p2 t2 = some (n3, t3, e3)) (x4 : leb_Get.f k p2 t3 = some (n4, t4, e4)) (x5 : leb_Get.f k p2 t4 = some (n5, t5, e5)) (x6 : leb_Get.f k p2 t5 = some (n6, t6, e6)) (y0 : ((p1 != 1) || e0 != 0) = b1) (y1 : ((b1 || e1 != 0) || decide (n1 > 2147483648)) = b2) (y2 : ((b2 || e2 != 0) || decide (n2 > 2147483648)) = b3) (y3 : (b3 || e3 != 0) = b4) (y4 : (b4 || e4 != 0) = b5) (y5 : ((b5 || e5 != 0) || decide (n5 > 2147483648)) = b6) (y6 : ((b6 || e6 != 0) || decide (n6 > 2147483648)) = b7) (w : World) (hr1 : Kd.C (Kd.int .u8) w A1 l1.length l1) (hc1 : l1.length ≤ c1) :
    Calls Try.prog 15 #[.int .i64 a0, .slice A1 l1.length c1] w fun e w' => e = .returned (.tuple #[.agg #[.int .u64 n0, .int .i64 (low32 n1), .int .i64 (low32 n2), .int .u64 n3, .int .u64 n4, .int .i64 (low32 n5), .int .i64 (low32 n6)], .int .i64 0]) ∧ Below w.heap.size w w' := by
  have HR1 := Aside0.mk hr1
  have HC1 := Aside0.mk hc1
  have HP := Aside0.mk hp
  have X0 := Aside0.mk x0
  have X1 := Aside0.mk x1
  have X2 := Aside0.mk x2
  have X3 := Aside0.mk x3
  have X4 := Aside0.mk x4
  have X5 := Aside0.mk x5
  have X6 := Aside0.mk x6
  have Y0 := Aside0.mk y0
  have Y1 := Aside0.mk y1
  have Y2 := Aside0.mk y2
  have Y3 := Aside0.mk y3
  have Y4 := Aside0.mk y4
  have Y5 := Aside0.mk y5
  have Y6 := Aside0.mk y6
  clear hr1 hc1 hp x0 y0 x1 y1 x2 y2 x3 y3 x4 y4 x5 y5 x6 y6
  have q1 : (a0 != 0) = true := bne_iff_ne.mpr (by omega)
  have q2 : (a0 != 1) = false := bne_eq_false_iff_eq.mpr h0
  clear h0
  subst hb7
  have tl : (t6 != (p2.length : Int)) = false := bne_eq_false_iff_eq.mpr ht6
  have HM := Aside0.mk hm
  have pl : (wrap64 (Int.tmod n0 2) != a0) = false := bne_eq_false_iff_eq.mpr hpl
  clear ht6 hm hpl
  go_enter Try.func15, Try.ntmps15
  go_wp2_with (first
    | (go_at_call 9; (with_reducible refine (page_Get.calls k a0 A1 c1 l1 p1 p2 0 _ (Kd.C_alloc HR1.out _) HC1.out HP.out).mono ?_); rintro e w2 ⟨v, rfl, ho, _, hb⟩; obtain ⟨A2, c2, ev⟩ := Kd.R_slice ho; subst ev; have hro := Kd.R_lower ho (below_alloc (Below.refl w.heap.size w) (.cells #[.int .u64 0, .int .i64 0, .int .i64 0, .int .u64 0, .int .u64 0, .int .i64 0, .int .i64 0] 34)).size; have S0 := Aside0.mk (clo_start (w := w) (w2 := w2) w.heap.size A2 c2 p2 (p1 != 1) (below_step (below_alloc (Below.refl _ _) _) hb) hro ((rootb_new w (.int .u64 0) (.int .i64 0) (.int .i64 0) (.int .u64 0) (.int .u64 0) (.int .i64 0) (.int .i64 0)).below hb) (Nat.le_refl _)); clear ho hb hro)
    | (go_at_call 29; (with_reducible refine (number2 k n0 t0 e0 b1 S0.out X0.out Y0.out).mono ?_); rintro e v0 ⟨rfl, hs⟩; obtain ⟨gr, hgr⟩ : ∃ z, z = (w2.heap.size + 1 + 1 + 1 + 1) := ⟨_, rfl⟩; rw [← hgr] at hs ⊢; clear hgr; obtain ⟨g11, hg11⟩ : ∃ z, z = (w2.heap.size + 1 + 1 + 1) := ⟨_, rfl⟩; rw [← hg11] at hs ⊢; clear hg11; obtain ⟨g10, hg10⟩ : ∃ z, z = (w2.heap.size + 1 + 1) := ⟨_, rfl⟩; rw [← hg10] at hs ⊢; clear hg10; obtain ⟨g9, hg9⟩ : ∃ z, z = (w2.heap.size + 1) := ⟨_, rfl⟩; rw [← hg9] at hs ⊢; clear hg9; obtain ⟨g7, hg7⟩ : ∃ z, z = w2.heap.size := ⟨_, rfl⟩; rw [← hg7] at hs ⊢; clear hg7; have S1 := Aside0.mk (hs.put 0 (.int .u64 n0)); have c11 := cell_of_one hs.clo.b11; have cr := hs.cellr (i := 0) rfl; have fr := blk_frozen hs.rb 0; have ne11 := hs.r11; clear hs)
    | (clear c11 cr fr ne11; go_at_call 31; (with_reducible refine (small2 k n1 t1 e1 b2 S1.out X1.out Y1.out).mono ?_); rintro e v1 ⟨rfl, hs⟩; have S2 := Aside0.mk (hs.put 1 (.int .i64 (low32 n1))); have c11 := cell_of_one hs.clo.b11; have cr := hs.cellr (i := 1) rfl; have fr := blk_frozen hs.rb 1; have ne11 := hs.r11; clear hs)
    | (clear c11 cr fr ne11; go_at_call 31; (with_reducible refine (small2 k n2 t2 e2 b3 S2.out X2.out Y2.out).mono ?_); rintro e v2 ⟨rfl, hs⟩; have S3 := Aside0.mk (hs.put 2 (.int .i64 (low32 n2))); have c11 := cell_of_one hs.clo.b11; have cr := hs.cellr (i := 2) rfl; have fr := blk_frozen hs.rb 2; have ne11 := hs.r11; clear hs)
    | (clear c11 cr fr ne11; go_at_call 29; (with_reducible refine (number2 k n3 t3 e3 b4 S3.out X3.out Y3.out).mono ?_); rintro e v3 ⟨rfl, hs⟩; have S4 := Aside0.mk (hs.put 3 (.int .u64 n3)); have c11 := cell_of_one hs.clo.b11; have cr := hs.cellr (i := 3) rfl; have fr := blk_frozen hs.rb 3; have ne11 := hs.r11; clear hs)
    | (clear c11 cr fr ne11; go_at_call 29; (with_reducible refine (number2 k n4 t4 e4 b5 S4.out X4.out Y4.out).mono ?_); rintro e v4 ⟨rfl, hs⟩; have S5 := Aside0.mk (hs.put 4 (.int .u64 n4)); have c11 := cell_of_one hs.clo.b11; have cr := hs.cellr (i := 4) rfl; have fr := blk_frozen hs.rb 4; have ne11 := hs.r11; clear hs)
    | (clear c11 cr fr ne11; go_at_call 31; (with_reducible refine (small2 k n5 t5 e5 b6 S5.out X5.out Y5.out).mono ?_); rintro e v5 ⟨rfl, hs⟩; have S6 := Aside0.mk (hs.put 5 (.int .i64 (low32 n5))); have c11 := cell_of_one hs.clo.b11; have cr := hs.cellr (i := 5) rfl; have fr := blk_frozen hs.rb 5; have ne11 := hs.r11; clear hs)
    | (clear c11 cr fr ne11; go_at_call 31; (with_reducible refine (small2 k n6 t6 e6 false S6.out X6.out Y6.out).mono ?_); rintro e v6 ⟨rfl, hs⟩; have S7 := Aside0.mk (hs.put 6 (.int .i64 (low32 n6))); have c11 := cell_of_one hs.clo.b11; have cr := hs.cellr (i := 6) rfl; have fr := blk_frozen hs.rb 6; have ne11 := hs.r11; have c10 := cell_of_one hs.clo.b10; have ne10 := hs.r10; have ne44 := hs.r44; have c9 := cell_of_one hs.clo.b9; have c7 := cell_of_one hs.clo.b7; have ne9 := hs.r9; have ne7 := hs.r7; have cr0 := hs.cellr (i := 0) rfl; have cr1 := hs.cellr (i := 1) rfl; have cr2 := hs.cellr (i := 2) rfl; have cr3 := hs.cellr (i := 3) rfl; have cr4 := hs.cellr (i := 4) rfl; have cr5 := hs.cellr (i := 5) rfl; clear hs)
    | (go_at_call 24; (with_reducible refine (root_may.calls k n0 (low32 n1) (low32 n2) n3 n4 (low32 n5) (low32 n6) true _ HM.out).mono ?_); rintro e v7 ⟨rfl, hb⟩; have B7 := Aside0.mk (below_step S7.out.clo.be hb); have R7 := Aside0.mk (S7.out.r4.below hb); have Q7 := Aside0.mk (blk_below S7.out.rb hb); clear hb; have hq7 : Rootb v7 gr (.int .u64 n0) (.int .i64 (low32 n1)) (.int .i64 (low32 n2)) (.int .u64 n3) (.int .u64 n4) (.int .i64 (low32 n5)) (.int .i64 (low32 n6)) := Q7.out; have d0 := hq7.c0; have d1 := hq7.c1; have d2 := hq7.c2; have d3 := hq7.c3; have d4 := hq7.c4; have d5 := hq7.c5; have d6 := hq7.c6; clear hq7; )
    | (go_at_call 13; (with_reducible refine (root_Place.calls n0 (low32 n1) (low32 n2) n3 n4 (low32 n5) (low32 n6) (wrap64 (Int.tmod n0 2)) _ rfl).mono ?_); rintro e v8 ⟨rfl, hb⟩; have B8 := Aside0.mk (below_step B7.out hb); have R8 := Aside0.mk (R7.out.below hb); have Q8 := Aside0.mk (blk_below Q7.out hb); clear hb; have zc0 := R8.out.c0; have zc1 := R8.out.c1; have zc2 := R8.out.c2; have zc3 := R8.out.c3; have zc4 := R8.out.c4; have zc5 := R8.out.c5; have zc6 := R8.out.c6; have zf0 := R8.out.fr 0; have zf1 := R8.out.fr 1; have zf2 := R8.out.fr 2; have zf3 := R8.out.fr 3; have zf4 := R8.out.fr 4; have zf5 := R8.out.fr 5; have zf6 := R8.out.fr 6; have hq8 : Rootb v8 gr (.int .u64 n0) (.int .i64 (low32 n1)) (.int .i64 (low32 n2)) (.int .u64 n3) (.int .u64 n4) (.int .i64 (low32 n5)) (.int .i64 (low32 n6)) := Q8.out; have f0 := hq8.c0; have f1 := hq8.c1; have f2 := hq8.c2; have f3 := hq8.c3; have f4 := hq8.c4; have f5 := hq8.c5; have f6 := hq8.c6; clear hq8; ))
  refine bodyPost_ret (results_ct rfl _ _ w.heap.size 34 #[.int .u64 n0, .int .i64 (low32 n1), .int .i64 (low32 n2), .int .u64 n3, .int .u64 n4, .int .i64 (low32 n5), .int .i64 (low32 n6)] (0, 0) _ rfl (R8.out.put (.int .u64 n0) (.int .i64 (low32 n1)) (.int .i64 (low32 n2)) (.int .u64 n3) (.int .u64 n4) (.int .i64 (low32 n5)) (.int .i64 (low32 n6))) Try.underlying34 rfl root_size) rfl ?_
  exact ⟨rfl, below_put7 B8.out (Nat.le_refl _) _ _ _ _ _ _ _⟩
theorem root_Get.calls (k : Nat) (a0 : Int) (A1 : Option Addr) (c1 : Nat) (l1 : List Int) (r1 : Int) (r2 : Int) (r3 : Int) (r4 : Int) (r5 : Int) (r6 : Int) (r7 : Int) (r8 : Int) (w : World) (hr1 : Kd.C (Kd.int .u8) w A1 l1.length l1) (hc1 : l1.length ≤ c1) (h : root_Get.f k a0 l1 = some (r1, r2, r3, r4, r5, r6, r7, r8)) :
    Calls Try.prog 15 #[.int .i64 a0, .slice A1 l1.length c1] w fun e w' => e = .returned (.tuple #[.agg #[.int .u64 r1, .int .i64 r2, .int .i64 r3, .int .u64 r4, .int .u64 r5, .int .i64 r6, .int .i64 r7], .int .i64 r8]) ∧ Below w.heap.size w w' := by
  unfold root_Get.f at h
  by_cases h0 : a0 = 0
  · rw [if_pos (Or.inl h0)] at h
    obtain ⟨⟨p1, p2, p3⟩, hp, h⟩ := Option.bind_eq_some_iff.mp h
    by_cases c3 : p3 = 0
    · subst c3
      rw [if_pos rfl] at h
      obtain ⟨⟨s1, s2, s3, s4, s5, s6, s7, t6, b7⟩, hn, h⟩ := Option.bind_eq_some_iff.mp h
      obtain ⟨n0, n1, n2, n3, n4, n5, n6, t0, t1, t2, t3, t4, t5, e0, e1, e2, e3, e4, e5, e6, b1, b2, b3, b4, b5, b6, x0, x1, x2, x3, x4, x5, x6, y0, y1, y2, y3, y4, y5, y6, rfl, rfl, rfl, rfl, rfl, rfl, rfl⟩ := root_nums.parts hn
      dsimp only at h
      by_cases cb : b7 = true
      · rw [if_pos cb] at h
        simp only [Option.some.injEq, Prod.mk.injEq] at h
        obtain ⟨rfl, rfl, rfl, rfl, rfl, rfl, rfl, rfl⟩ := h
        exact root_Get.bad_zero k a0 A1 c1 l1 p1 p2 n0 n1 n2 n3 n4 n5 n6 t0 t1 t2 t3 t4 t5 t6 e0 e1 e2 e3 e4 e5 e6 b1 b2 b3 b4 b5 b6 b7 h0 cb hp x0 x1 x2 x3 x4 x5 x6 y0 y1 y2 y3 y4 y5 y6 w hr1 hc1
      · rw [if_neg cb] at h
        have cb' := Bool.eq_false_iff.mpr cb
        by_cases ct : t6 = (p2.length : Int)
        · rw [if_pos ct] at h
          obtain ⟨m, hm, h⟩ := Option.bind_eq_some_iff.mp h
          cases m with
          | true =>
            rw [if_pos rfl] at h
            by_cases cp : wrap64 (Int.tmod n0 2) = a0
            · rw [if_pos cp] at h
              simp only [Option.some.injEq, Prod.mk.injEq] at h
              obtain ⟨rfl, rfl, rfl, rfl, rfl, rfl, rfl, rfl⟩ := h
              exact root_Get.ok_zero k a0 A1 c1 l1 p1 p2 n0 n1 n2 n3 n4 n5 n6 t0 t1 t2 t3 t4 t5 t6 e0 e1 e2 e3 e4 e5 e6 b1 b2 b3 b4 b5 b6 b7 h0 cb' ct hm cp hp x0 x1 x2 x3 x4 x5 x6 y0 y1 y2 y3 y4 y5 y6 w hr1 hc1
            · rw [if_neg cp] at h
              simp only [Option.some.injEq, Prod.mk.injEq] at h
              obtain ⟨rfl, rfl, rfl, rfl, rfl, rfl, rfl, rfl⟩ := h
              exact root_Get.place_zero k a0 A1 c1 l1 p1 p2 n0 n1 n2 n3 n4 n5 n6 t0 t1 t2 t3 t4 t5 t6 e0 e1 e2 e3 e4 e5 e6 b1 b2 b3 b4 b5 b6 b7 h0 cb' ct hm cp hp x0 x1 x2 x3 x4 x5 x6 y0 y1 y2 y3 y4 y5 y6 w hr1 hc1
          | false =>
            rw [if_neg (by decide)] at h
            simp only [Option.some.injEq, Prod.mk.injEq] at h
            obtain ⟨rfl, rfl, rfl, rfl, rfl, rfl, rfl, rfl⟩ := h
            exact root_Get.may_zero k a0 A1 c1 l1 p1 p2 n0 n1 n2 n3 n4 n5 n6 t0 t1 t2 t3 t4 t5 t6 e0 e1 e2 e3 e4 e5 e6 b1 b2 b3 b4 b5 b6 b7 h0 cb' ct hm hp x0 x1 x2 x3 x4 x5 x6 y0 y1 y2 y3 y4 y5 y6 w hr1 hc1
        · rw [if_neg ct] at h
          simp only [Option.some.injEq, Prod.mk.injEq] at h
          obtain ⟨rfl, rfl, rfl, rfl, rfl, rfl, rfl, rfl⟩ := h
          exact root_Get.len_zero k a0 A1 c1 l1 p1 p2 n0 n1 n2 n3 n4 n5 n6 t0 t1 t2 t3 t4 t5 t6 e0 e1 e2 e3 e4 e5 e6 b1 b2 b3 b4 b5 b6 b7 h0 cb' ct hp x0 x1 x2 x3 x4 x5 x6 y0 y1 y2 y3 y4 y5 y6 w hr1 hc1
    · rw [if_neg c3] at h
      simp only [Option.some.injEq, Prod.mk.injEq] at h
      obtain ⟨rfl, rfl, rfl, rfl, rfl, rfl, rfl, rfl⟩ := h
      exact root_Get.nopage_zero k a0 A1 c1 l1 p1 p2 p3 h0 hp c3 w hr1 hc1
  · by_cases h1 : a0 = 1
    · rw [if_pos (Or.inr h1)] at h
      clear h0
      have h0 := h1
      clear h1
      obtain ⟨⟨p1, p2, p3⟩, hp, h⟩ := Option.bind_eq_some_iff.mp h
      by_cases c3 : p3 = 0
      · subst c3
        rw [if_pos rfl] at h
        obtain ⟨⟨s1, s2, s3, s4, s5, s6, s7, t6, b7⟩, hn, h⟩ := Option.bind_eq_some_iff.mp h
        obtain ⟨n0, n1, n2, n3, n4, n5, n6, t0, t1, t2, t3, t4, t5, e0, e1, e2, e3, e4, e5, e6, b1, b2, b3, b4, b5, b6, x0, x1, x2, x3, x4, x5, x6, y0, y1, y2, y3, y4, y5, y6, rfl, rfl, rfl, rfl, rfl, rfl, rfl⟩ := root_nums.parts hn
        dsimp only at h
        by_cases cb : b7 = true
        · rw [if_pos cb] at h
          simp only [Option.some.injEq, Prod.mk.injEq] at h
          obtain ⟨rfl, rfl, rfl, rfl, rfl, rfl, rfl, rfl⟩ := h
          exact root_Get.bad_one k a0 A1 c1 l1 p1 p2 n0 n1 n2 n3 n4 n5 n6 t0 t1 t2 t3 t4 t5 t6 e0 e1 e2 e3 e4 e5 e6 b1 b2 b3 b4 b5 b6 b7 h0 cb hp x0 x1 x2 x3 x4 x5 x6 y0 y1 y2 y3 y4 y5 y6 w hr1 hc1
        · rw [if_neg cb] at h
          have cb' := Bool.eq_false_iff.mpr cb
          by_cases ct : t6 = (p2.length : Int)
          · rw [if_pos ct] at h
            obtain ⟨m, hm, h⟩ := Option.bind_eq_some_iff.mp h
            cases m with
            | true =>
              rw [if_pos rfl] at h
              by_cases cp : wrap64 (Int.tmod n0 2) = a0
              · rw [if_pos cp] at h
                simp only [Option.some.injEq, Prod.mk.injEq] at h
                obtain ⟨rfl, rfl, rfl, rfl, rfl, rfl, rfl, rfl⟩ := h
                exact root_Get.ok_one k a0 A1 c1 l1 p1 p2 n0 n1 n2 n3 n4 n5 n6 t0 t1 t2 t3 t4 t5 t6 e0 e1 e2 e3 e4 e5 e6 b1 b2 b3 b4 b5 b6 b7 h0 cb' ct hm cp hp x0 x1 x2 x3 x4 x5 x6 y0 y1 y2 y3 y4 y5 y6 w hr1 hc1
              · rw [if_neg cp] at h
                simp only [Option.some.injEq, Prod.mk.injEq] at h
                obtain ⟨rfl, rfl, rfl, rfl, rfl, rfl, rfl, rfl⟩ := h
                exact root_Get.place_one k a0 A1 c1 l1 p1 p2 n0 n1 n2 n3 n4 n5 n6 t0 t1 t2 t3 t4 t5 t6 e0 e1 e2 e3 e4 e5 e6 b1 b2 b3 b4 b5 b6 b7 h0 cb' ct hm cp hp x0 x1 x2 x3 x4 x5 x6 y0 y1 y2 y3 y4 y5 y6 w hr1 hc1
            | false =>
              rw [if_neg (by decide)] at h
              simp only [Option.some.injEq, Prod.mk.injEq] at h
              obtain ⟨rfl, rfl, rfl, rfl, rfl, rfl, rfl, rfl⟩ := h
              exact root_Get.may_one k a0 A1 c1 l1 p1 p2 n0 n1 n2 n3 n4 n5 n6 t0 t1 t2 t3 t4 t5 t6 e0 e1 e2 e3 e4 e5 e6 b1 b2 b3 b4 b5 b6 b7 h0 cb' ct hm hp x0 x1 x2 x3 x4 x5 x6 y0 y1 y2 y3 y4 y5 y6 w hr1 hc1
          · rw [if_neg ct] at h
            simp only [Option.some.injEq, Prod.mk.injEq] at h
            obtain ⟨rfl, rfl, rfl, rfl, rfl, rfl, rfl, rfl⟩ := h
            exact root_Get.len_one k a0 A1 c1 l1 p1 p2 n0 n1 n2 n3 n4 n5 n6 t0 t1 t2 t3 t4 t5 t6 e0 e1 e2 e3 e4 e5 e6 b1 b2 b3 b4 b5 b6 b7 h0 cb' ct hp x0 x1 x2 x3 x4 x5 x6 y0 y1 y2 y3 y4 y5 y6 w hr1 hc1
      · rw [if_neg c3] at h
        simp only [Option.some.injEq, Prod.mk.injEq] at h
        obtain ⟨rfl, rfl, rfl, rfl, rfl, rfl, rfl, rfl⟩ := h
        exact root_Get.nopage_one k a0 A1 c1 l1 p1 p2 p3 h0 hp c3 w hr1 hc1
    · rw [if_neg (by omega)] at h
      simp only [Option.some.injEq, Prod.mk.injEq] at h
      obtain ⟨rfl, rfl, rfl, rfl, rfl, rfl, rfl, rfl⟩ := h
      exact root_Get.noplace k a0 A1 c1 l1 h0 h1 w hr1 hc1
end Go.Proofs.Ytkecgmoaojklbaa.PAll
