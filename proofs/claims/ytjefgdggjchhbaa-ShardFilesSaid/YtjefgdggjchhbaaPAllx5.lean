-- PRINTED by print.py (a twelfth state) out of the translation. Not trusted: Lean checks it.
import Derived.Test.YtjefgdggjchhbaaPAllx0
namespace Go.Proofs.Ytjefgdggjchhbaa.PAll
open Go.RowKit Go.Proofs.YtjefgdggjchhbaaVW.PrintWords Go.Proofs.YtjefgdggjchhbaaVW.PrintLast Go.Proofs.YtjefgdggjchhbaaVW.PrintMore
attribute [local go_sem] max2_int min2_int max_two min_two max_three min_three max_four min_four   -- for this text's walks alone
set_option linter.unusedVariables false
set_option linter.unusedSimpArgs false

/-! ### leb_Get: function 60 -/
mutual
def leb_Get.j0 : Nat → List Int → Int → Int → Bool → Option (Int × Int × Int)
 | 0, _, _, _, _ => none
 | k + 1, x0, x1, x4, x16 => if x16 = true then (some (0, 0, 2)) else (leb_Get.l0 k x0 x1 x4 0)
def leb_Get.l0 : Nat → List Int → Int → Int → Int → Option (Int × Int × Int)
 | 0, _, _, _, _ => none
 | k + 1, x0, x1, x4, x7 => if x7 < 10 then (if (wrap64 (x1 + x7)) = (x0.length : Int) then (some (0, 0, 4)) else (if 0 ≤ (wrap64 (x1 + x7)) then (if (wrap64 (x1 + x7)) < (x0.length : Int) then (if 0 ≤ (IntKind.u64.wrap (7 * (IntKind.u64.wrap (x7)))) then (if (rd x0 (wrap64 (x1 + x7))) < 128 then (if x7 = 10 then (some (0, 0, 5)) else (if x7 = 9 then (if (rd x0 (wrap64 (x1 + x7))) > 1 then (some (0, 0, 5)) else (if x7 > 0 then (if (rd x0 (wrap64 (x1 + x7))) = 0 then (some (0, 0, 5)) else (some (Go.bits .or .u64 x4 (shl .u64 (IntKind.u64.wrap (Go.bits .and .u8 (rd x0 (wrap64 (x1 + x7))) 127)) (IntKind.u64.wrap (7 * (IntKind.u64.wrap (x7))))), wrap64 ((wrap64 (x1 + x7)) + 1), 0))) else (some (Go.bits .or .u64 x4 (shl .u64 (IntKind.u64.wrap (Go.bits .and .u8 (rd x0 (wrap64 (x1 + x7))) 127)) (IntKind.u64.wrap (7 * (IntKind.u64.wrap (x7))))), wrap64 ((wrap64 (x1 + x7)) + 1), 0)))) else (if x7 > 0 then (if (rd x0 (wrap64 (x1 + x7))) = 0 then (some (0, 0, 5)) else (some (Go.bits .or .u64 x4 (shl .u64 (IntKind.u64.wrap (Go.bits .and .u8 (rd x0 (wrap64 (x1 + x7))) 127)) (IntKind.u64.wrap (7 * (IntKind.u64.wrap (x7))))), wrap64 ((wrap64 (x1 + x7)) + 1), 0))) else (some (Go.bits .or .u64 x4 (shl .u64 (IntKind.u64.wrap (Go.bits .and .u8 (rd x0 (wrap64 (x1 + x7))) 127)) (IntKind.u64.wrap (7 * (IntKind.u64.wrap (x7))))), wrap64 ((wrap64 (x1 + x7)) + 1), 0))))) else (leb_Get.l0 k x0 x1 (Go.bits .or .u64 x4 (shl .u64 (IntKind.u64.wrap (Go.bits .and .u8 (rd x0 (wrap64 (x1 + x7))) 127)) (IntKind.u64.wrap (7 * (IntKind.u64.wrap (x7)))))) (wrap64 (x7 + 1)))) else (none)) else (none)) else (none))) else (if x7 = 10 then (some (0, 0, 5)) else (if x7 = 9 then (if 0 ≤ (wrap64 (x1 + x7)) then (if (wrap64 (x1 + x7)) < (x0.length : Int) then (if (rd x0 (wrap64 (x1 + x7))) > 1 then (some (0, 0, 5)) else (if x7 > 0 then (if (rd x0 (wrap64 (x1 + x7))) = 0 then (some (0, 0, 5)) else (some (x4, wrap64 ((wrap64 (x1 + x7)) + 1), 0))) else (some (x4, wrap64 ((wrap64 (x1 + x7)) + 1), 0)))) else (none)) else (none)) else (if x7 > 0 then (if 0 ≤ (wrap64 (x1 + x7)) then (if (wrap64 (x1 + x7)) < (x0.length : Int) then (if (rd x0 (wrap64 (x1 + x7))) = 0 then (some (0, 0, 5)) else (some (x4, wrap64 ((wrap64 (x1 + x7)) + 1), 0))) else (none)) else (none)) else (some (x4, wrap64 ((wrap64 (x1 + x7)) + 1), 0)))))
end
def leb_Get.f (k : Nat) (l0 : List Int) (a1 : Int) : Option (Int × Int × Int) := if a1 < 0 then (leb_Get.j0 k l0 a1 0 true) else (leb_Get.j0 k l0 a1 0 (decide (a1 > (l0.length : Int))))
theorem leb_Get.mono_l : ∀ k, (∀ y0 y1 y2 y3, LeO (leb_Get.j0 k y0 y1 y2 y3) (leb_Get.j0 (k + 1) y0 y1 y2 y3)) ∧ (∀ y0 y1 y2 y3, LeO (leb_Get.l0 k y0 y1 y2 y3) (leb_Get.l0 (k + 1) y0 y1 y2 y3))
 | 0 => ⟨fun _ _ _ _ r h => by simp [leb_Get.j0] at h, fun _ _ _ _ r h => by simp [leb_Get.l0] at h⟩
 | k + 1 => by
  obtain ⟨ih0, ih1⟩ := leb_Get.mono_l k
  refine ⟨?_, ?_⟩
  ·
   intro y0 y1 y2 y3
   unfold leb_Get.j0
   repeat' first
   | (with_reducible exact ih0 _ _ _ _)
   | (with_reducible exact ih1 _ _ _ _)
   | (with_reducible exact LeO.refl _)
   | (with_reducible exact LeO.none _)
   | (with_reducible refine LeO.ite ?_ ?_)
   | (with_reducible refine LeO.bind ?_ (fun _ => ?_))
   | exact ih0 _ _ _ _
   | exact ih1 _ _ _ _
   | exact LeO.none _
   | refine LeO.ite ?_ ?_
   | refine LeO.bind ?_ (fun _ => ?_)
  ·
   intro y0 y1 y2 y3
   unfold leb_Get.l0
   repeat' first
   | (with_reducible exact ih0 _ _ _ _)
   | (with_reducible exact ih1 _ _ _ _)
   | (with_reducible exact LeO.refl _)
   | (with_reducible exact LeO.none _)
   | (with_reducible refine LeO.ite ?_ ?_)
   | (with_reducible refine LeO.bind ?_ (fun _ => ?_))
   | exact ih0 _ _ _ _
   | exact ih1 _ _ _ _
   | exact LeO.none _
   | refine LeO.ite ?_ ?_
   | refine LeO.bind ?_ (fun _ => ?_)
theorem leb_Get.mono : ∀ a0 a1 k, LeO (leb_Get.f k a0 a1) (leb_Get.f (k + 1) a0 a1) := by
 intro a0 a1 k
 obtain ⟨ih0, ih1⟩ := leb_Get.mono_l k
 unfold leb_Get.f
 repeat' first
   | (with_reducible exact ih0 _ _ _ _)
   | (with_reducible exact ih1 _ _ _ _)
   | (with_reducible exact LeO.refl _)
   | (with_reducible exact LeO.none _)
   | (with_reducible refine LeO.ite ?_ ?_)
   | (with_reducible refine LeO.bind ?_ (fun _ => ?_))
   | exact ih0 _ _ _ _
   | exact ih1 _ _ _ _
   | exact LeO.none _
   | refine LeO.ite ?_ ?_
   | refine LeO.bind ?_ (fun _ => ?_)
set_option maxHeartbeats 8000000 in
set_option maxRecDepth 100000 in
theorem leb_Get.calls (k : Nat) (A0 : Option Addr) (c0 : Nat) (l0 : List Int) (a1 : Int) (r1 : Int) (r2 : Int) (r3 : Int) (w : World) (hr0 : Kd.C (Kd.int .u8) w A0 l0.length l0) (hc0 : l0.length ≤ c0) (h : leb_Get.f k l0 a1 = some (r1, r2, r3)) :
  Calls Try.prog 60 #[.slice A0 l0.length c0, .int .i64 a1] w fun e w' => e = .returned (.tuple #[.int .u64 r1, .int .i64 r2, .int .i64 r3]) ∧ Drawn0 w w' := by
 have HR0 := Aside0.mk hr0
 have HC0 := Aside0.mk hc0
 clear hr0 hc0
 have H : (if a1 < 0 then (leb_Get.j0 k l0 a1 0 true) else (leb_Get.j0 k l0 a1 0 (decide (a1 > (l0.length : Int))))) = some (r1, r2, r3) := h
 clear h
 have HC3 := Aside0.mk H
 clear H
 go_enter Try.func60, Try.ntmps60
 go_wp2
 go_step3
 go_upto_region 1 with (fail)
 go_cut [16] (fun v16 wc => ∃ (kq : Nat) (x16_2 : Bool), v16 = .bool x16_2 ∧ Aside0 (leb_Get.j0 kq l0 a1 0 x16_2 = some (r1, r2, r3)) ∧ Aside0 (kq ≤ k) ∧ Drawn0 w wc)
 case first =>
  have H := HC3.out
  clear HC3
  by_cases c4 : a1 < 0
  ·
   rw [if_pos c4] at H
   have c4b0 : decide (a1 < 0) = true := decide_eq_true c4
   clear c4
   (first | rw [c4b0] | (simp only [i64_w, i32_w]; rw [c4b0]) | skip)
   have H' := Aside0.mk H
   clear H
   go_wp2
   try (go_step3; (try go_wp2))
   try simp only [Exit.noGoto_ret]
   go_meet
   case rel => exact ⟨_, (true), (by first | rfl | (simp; done) | (simp [*]; done)), H', ⟨by first | omega | exact Nat.le_refl _⟩, by repeat (first | exact Drawn0.refl _ | apply Drawn0.step)⟩
  ·
   rw [if_neg c4] at H
   have c4b0 : decide (a1 < 0) = false := decide_eq_false c4
   clear c4
   (first | rw [c4b0] | (simp only [i64_w, i32_w]; rw [c4b0]) | skip)
   have H' := Aside0.mk H
   clear H
   go_wp2
   try (go_step3; (try go_wp2))
   try simp only [Exit.noGoto_ret]
   go_meet
   case rel => exact ⟨_, (decide (a1 > (l0.length : Int))), (by first | rfl | (simp; done) | (simp [*]; done)), H', ⟨by first | omega | exact Nat.le_refl _⟩, by repeat (first | exact Drawn0.refl _ | apply Drawn0.step)⟩
 case rest =>
  clear HC3
  try clear p2
  try clear p3
  try clear c4
  try clear c4b0
  obtain ⟨kq, x16_2, rfl, HA, HJ2, ⟨mc2, rfl⟩⟩ := hcut
  cases kq with
  | zero => exact absurd HA.out (by simp [leb_Get.j0])
  | succ kj2 =>
   have H := HA.out
   clear HA
   simp only [leb_Get.j0] at H
   by_cases c5 : x16_2 = true
   ·
    subst c5
    have H1 : (some (0, 0, 2)) = some (r1, r2, r3) := by rw [if_pos rfl] at H; exact H
    clear H
    have H := H1
    clear H1
    simp only [Option.some.injEq, Prod.mk.injEq] at H
    obtain ⟨rfl, rfl, rfl⟩ := H
    go_wp2
    try (go_step3; (try go_wp2))
    try simp only [Exit.noGoto_ret]
    go_ret3
    exact ⟨by first | rfl | (simp; done) | (simp [*]; done), by repeat (first | exact Drawn0.refl _ | apply Drawn0.step)⟩
   ·
    replace c5 := Bool.eq_false_iff.mpr c5
    subst c5
    have H1 : (leb_Get.l0 kj2 l0 a1 0 0) = some (r1, r2, r3) := by rw [if_neg (show ¬ (false = true) by decide)] at H; exact H
    clear H
    have H := H1
    clear H1
    have H' := Aside0.mk H
    clear H
    go_wp2
    try (go_step3; (try go_wp2))
    try simp only [Exit.noGoto_ret]
    go_loopg [4, 7] kj2 (fun kq v4 v7 w' => ∃ (x4_2 : Int) (x7_2 : Int), v4 = .int .u64 x4_2 ∧ v7 = .int .i64 x7_2 ∧ Aside0 (leb_Get.l0 kq l0 a1 x4_2 x7_2 = some (r1, r2, r3)) ∧ Aside0 (kq ≤ kj2) ∧ Drawn0 w w')
    case atStart => exact ⟨(0), (0), (by first | rfl | (simp; done) | (simp [*]; done)), (by first | rfl | (simp; done) | (simp [*]; done)), H', ⟨Nat.le_refl _⟩, by repeat (first | exact Drawn0.refl _ | apply Drawn0.step)⟩
    case round =>
     clear H'
     try clear c2
     try clear p2
     try clear p3
     try clear c4
     try clear c4b0
     try clear c5
     try clear p2
     try clear p3
     obtain ⟨x4_2, x7_2, rfl, rfl, HA, HK2, ⟨m2, rfl⟩⟩ := hrel
     cases gk with
     | zero => exact absurd HA.out (by simp [leb_Get.l0])
     | succ k2 =>
      have H := HA.out
      clear HA
      simp only [leb_Get.l0] at H
      by_cases c6 : x7_2 < 10
      ·
       rw [if_pos c6] at H
       have c6b0 : decide (x7_2 < 10) = true := decide_eq_true c6
       clear c6
       by_cases c7 : (wrap64 (a1 + x7_2)) = (l0.length : Int)
       ·
        rw [if_pos c7] at H
        have c7b0 : ((wrap64 (a1 + x7_2)) == (l0.length : Int)) = true := beq_iff_eq.mpr c7
        have c7b1 : ((wrap64 (a1 + x7_2)) != (l0.length : Int)) = false := bne_eq_false_iff_eq.mpr c7
        clear c7
        simp only [Option.some.injEq, Prod.mk.injEq] at H
        obtain ⟨rfl, rfl, rfl⟩ := H
        go_wp2
        try (go_step3; (try go_wp2))
        try simp only [Exit.noGoto_ret]
        go_ret3
        exact ⟨by first | rfl | (simp; done) | (simp [*]; done), by repeat (first | exact Drawn0.refl _ | apply Drawn0.step)⟩
       ·
        rw [if_neg c7] at H
        have c7b0 : ((wrap64 (a1 + x7_2)) == (l0.length : Int)) = false := beq_eq_false_iff_ne.mpr c7
        have c7b1 : ((wrap64 (a1 + x7_2)) != (l0.length : Int)) = true := bne_iff_ne.mpr c7
        obtain ⟨ji8, hji8⟩ : ∃ j_ : Int, (wrap64 (a1 + x7_2)) = j_ := ⟨_, rfl⟩
        replace H : (if 0 ≤ (ji8) then (if (ji8) < (l0.length : Int) then (if 0 ≤ (IntKind.u64.wrap (7 * (IntKind.u64.wrap (x7_2)))) then (if (rd l0 (ji8)) < 128 then (if x7_2 = 10 then (some (0, 0, 5)) else (if x7_2 = 9 then (if (rd l0 (ji8)) > 1 then (some (0, 0, 5)) else (if x7_2 > 0 then (if (rd l0 (ji8)) = 0 then (some (0, 0, 5)) else (some (Go.bits .or .u64 x4_2 (shl .u64 (IntKind.u64.wrap (Go.bits .and .u8 (rd l0 (ji8)) 127)) (IntKind.u64.wrap (7 * (IntKind.u64.wrap (x7_2))))), wrap64 ((ji8) + 1), 0))) else (some (Go.bits .or .u64 x4_2 (shl .u64 (IntKind.u64.wrap (Go.bits .and .u8 (rd l0 (ji8)) 127)) (IntKind.u64.wrap (7 * (IntKind.u64.wrap (x7_2))))), wrap64 ((ji8) + 1), 0)))) else (if x7_2 > 0 then (if (rd l0 (ji8)) = 0 then (some (0, 0, 5)) else (some (Go.bits .or .u64 x4_2 (shl .u64 (IntKind.u64.wrap (Go.bits .and .u8 (rd l0 (ji8)) 127)) (IntKind.u64.wrap (7 * (IntKind.u64.wrap (x7_2))))), wrap64 ((ji8) + 1), 0))) else (some (Go.bits .or .u64 x4_2 (shl .u64 (IntKind.u64.wrap (Go.bits .and .u8 (rd l0 (ji8)) 127)) (IntKind.u64.wrap (7 * (IntKind.u64.wrap (x7_2))))), wrap64 ((ji8) + 1), 0))))) else (leb_Get.l0 k2 l0 a1 (Go.bits .or .u64 x4_2 (shl .u64 (IntKind.u64.wrap (Go.bits .and .u8 (rd l0 (ji8)) 127)) (IntKind.u64.wrap (7 * (IntKind.u64.wrap (x7_2)))))) (wrap64 (x7_2 + 1)))) else (none)) else (none)) else (none)) = some (r1, r2, r3) := by first | (rw [hji8] at H; exact H) | (simp only [hji8] at H ⊢; exact H)
        (try rw [hji8] at c7b0)
        (try rw [hji8] at c7b1)
        have hji8w : (IntKind.i64.wrap (a1 + x7_2)) = ji8 := (i64_w _).trans hji8
        by_cases c9 : 0 ≤ (ji8)
        ·
         rw [if_pos c9] at H
         have c9b0 : decide (0 ≤ (ji8)) = true := decide_eq_true c9
         clear c9
         by_cases c10 : (ji8) < (l0.length : Int)
         ·
          rw [if_pos c10] at H
          have c10b0 : decide ((ji8) < (l0.length : Int)) = true := decide_eq_true c10
          clear c10
          obtain ⟨ji11, hji11⟩ : ∃ j_ : Int, (IntKind.u64.wrap (7 * (IntKind.u64.wrap (x7_2)))) = j_ := ⟨_, rfl⟩
          replace H : (if 0 ≤ (ji11) then (if (rd l0 (ji8)) < 128 then (if x7_2 = 10 then (some (0, 0, 5)) else (if x7_2 = 9 then (if (rd l0 (ji8)) > 1 then (some (0, 0, 5)) else (if x7_2 > 0 then (if (rd l0 (ji8)) = 0 then (some (0, 0, 5)) else (some (Go.bits .or .u64 x4_2 (shl .u64 (IntKind.u64.wrap (Go.bits .and .u8 (rd l0 (ji8)) 127)) (ji11)), wrap64 ((ji8) + 1), 0))) else (some (Go.bits .or .u64 x4_2 (shl .u64 (IntKind.u64.wrap (Go.bits .and .u8 (rd l0 (ji8)) 127)) (ji11)), wrap64 ((ji8) + 1), 0)))) else (if x7_2 > 0 then (if (rd l0 (ji8)) = 0 then (some (0, 0, 5)) else (some (Go.bits .or .u64 x4_2 (shl .u64 (IntKind.u64.wrap (Go.bits .and .u8 (rd l0 (ji8)) 127)) (ji11)), wrap64 ((ji8) + 1), 0))) else (some (Go.bits .or .u64 x4_2 (shl .u64 (IntKind.u64.wrap (Go.bits .and .u8 (rd l0 (ji8)) 127)) (ji11)), wrap64 ((ji8) + 1), 0))))) else (leb_Get.l0 k2 l0 a1 (Go.bits .or .u64 x4_2 (shl .u64 (IntKind.u64.wrap (Go.bits .and .u8 (rd l0 (ji8)) 127)) (ji11))) (wrap64 (x7_2 + 1)))) else (none)) = some (r1, r2, r3) := by first | (rw [hji11] at H; exact H) | (simp only [hji11] at H ⊢; exact H)
          by_cases c12 : 0 ≤ (ji11)
          ·
           rw [if_pos c12] at H
           have c12b0 := eq_true c12
           have c12b1 : decide (0 ≤ (ji11)) = true := decide_eq_true c12
           clear c12
           obtain ⟨ji13, hji13⟩ : ∃ j_ : Int, (shl .u64 (IntKind.u64.wrap (Go.bits .and .u8 (rd l0 (ji8)) 127)) (ji11)) = j_ := ⟨_, rfl⟩
           replace H : (if (rd l0 (ji8)) < 128 then (if x7_2 = 10 then (some (0, 0, 5)) else (if x7_2 = 9 then (if (rd l0 (ji8)) > 1 then (some (0, 0, 5)) else (if x7_2 > 0 then (if (rd l0 (ji8)) = 0 then (some (0, 0, 5)) else (some (Go.bits .or .u64 x4_2 (ji13), wrap64 ((ji8) + 1), 0))) else (some (Go.bits .or .u64 x4_2 (ji13), wrap64 ((ji8) + 1), 0)))) else (if x7_2 > 0 then (if (rd l0 (ji8)) = 0 then (some (0, 0, 5)) else (some (Go.bits .or .u64 x4_2 (ji13), wrap64 ((ji8) + 1), 0))) else (some (Go.bits .or .u64 x4_2 (ji13), wrap64 ((ji8) + 1), 0))))) else (leb_Get.l0 k2 l0 a1 (Go.bits .or .u64 x4_2 (ji13)) (wrap64 (x7_2 + 1)))) = some (r1, r2, r3) := by first | (rw [hji13] at H; exact H) | (simp only [hji13] at H ⊢; exact H)
           have hji13_ : (IntKind.u64.wrap ((IntKind.u64.wrap (Go.bits .and .u8 (rd l0 (ji8)) 127)) * 2 ^ min (ji11).toNat 64)) = ji13 := hji13
           have hji13z : (ji11) ≤ 64 → (IntKind.u64.wrap ((IntKind.u64.wrap (Go.bits .and .u8 (rd l0 (ji8)) 127)) * 2 ^ (ji11).toNat)) = ji13 := shl_small hji13
           by_cases c14 : (rd l0 (ji8)) < 128
           ·
            rw [if_pos c14] at H
            have c14b0 : decide ((rd l0 (ji8)) < 128) = true := decide_eq_true c14
            clear c14
            by_cases c15 : x7_2 = 10
            ·
             rw [if_pos c15] at H
             have c15b0 : (x7_2 == 10) = true := beq_iff_eq.mpr c15
             have c15b1 : (x7_2 != 10) = false := bne_eq_false_iff_eq.mpr c15
             clear c15
             simp only [Option.some.injEq, Prod.mk.injEq] at H
             obtain ⟨rfl, rfl, rfl⟩ := H
             have p244 : 0 ≤ ((ji8) : Int) := of_decide_eq_true (by first | (with_reducible assumption) | assumption)
             have q244 : (ji8) < (l0.length : Int) := of_decide_eq_true (by first | (with_reducible assumption) | assumption)
             obtain ⟨ad244, e244, hx244_0⟩ := Kd.at_int HR0.out (ji8) p244 q244
             cases e244
             replace p244 := eq_true p244
             replace q244 := eq_true q244
             go_wp2
             try (go_step3; (try go_wp2))
             try simp only [Exit.noGoto_ret]
             go_ret3
             exact ⟨by first | rfl | (simp; done) | (simp only [← hji8, ← hji11, ← hji13] <;> (first | rfl | simp)) | (simp [*]; done), by repeat (first | exact Drawn0.refl _ | apply Drawn0.step)⟩
            ·
             rw [if_neg c15] at H
             have c15b0 : (x7_2 == 10) = false := beq_eq_false_iff_ne.mpr c15
             have c15b1 : (x7_2 != 10) = true := bne_iff_ne.mpr c15
             by_cases c16 : x7_2 = 9
             ·
              rw [if_pos c16] at H
              have c16b0 : (x7_2 == 9) = true := beq_iff_eq.mpr c16
              have c16b1 : (x7_2 != 9) = false := bne_eq_false_iff_eq.mpr c16
              clear c16
              by_cases c17 : (rd l0 (ji8)) > 1
              ·
               rw [if_pos c17] at H
               have c17b0 : decide (1 < (rd l0 (ji8))) = true := decide_eq_true c17
               clear c17
               simp only [Option.some.injEq, Prod.mk.injEq] at H
               obtain ⟨rfl, rfl, rfl⟩ := H
               have p244 : 0 ≤ ((ji8) : Int) := of_decide_eq_true (by first | (with_reducible assumption) | assumption)
               have q244 : (ji8) < (l0.length : Int) := of_decide_eq_true (by first | (with_reducible assumption) | assumption)
               obtain ⟨ad244, e244, hx244_0⟩ := Kd.at_int HR0.out (ji8) p244 q244
               cases e244
               replace p244 := eq_true p244
               replace q244 := eq_true q244
               have p245 : 0 ≤ ((ji8) : Int) := of_decide_eq_true (by first | (with_reducible assumption) | assumption)
               have q245 : (ji8) < (l0.length : Int) := of_decide_eq_true (by first | (with_reducible assumption) | assumption)
               obtain ⟨ad245, e245, hx245_0⟩ := Kd.at_int HR0.out (ji8) p245 q245
               obtain rfl : ad244 = ad245 := (by injection e245)
               replace p245 := eq_true p245
               replace q245 := eq_true q245
               go_wp2
               try (go_step3; (try go_wp2))
               try simp only [Exit.noGoto_ret]
               go_ret3
               exact ⟨by first | rfl | (simp; done) | (simp only [← hji8, ← hji11, ← hji13] <;> (first | rfl | simp)) | (simp [*]; done), by repeat (first | exact Drawn0.refl _ | apply Drawn0.step)⟩
              ·
               rw [if_neg c17] at H
               have c17b0 : decide (1 < (rd l0 (ji8))) = false := decide_eq_false c17
               clear c17
               by_cases c18 : x7_2 > 0
               ·
                rw [if_pos c18] at H
                have c18b0 : decide (0 < x7_2) = true := decide_eq_true c18
                clear c18
                by_cases c19 : (rd l0 (ji8)) = 0
                ·
                 rw [if_pos c19] at H
                 have c19b0 : ((rd l0 (ji8)) == 0) = true := beq_iff_eq.mpr c19
                 have c19b1 : ((rd l0 (ji8)) != 0) = false := bne_eq_false_iff_eq.mpr c19
                 clear c19
                 simp only [Option.some.injEq, Prod.mk.injEq] at H
                 obtain ⟨rfl, rfl, rfl⟩ := H
                 have p244 : 0 ≤ ((ji8) : Int) := of_decide_eq_true (by first | (with_reducible assumption) | assumption)
                 have q244 : (ji8) < (l0.length : Int) := of_decide_eq_true (by first | (with_reducible assumption) | assumption)
                 obtain ⟨ad244, e244, hx244_0⟩ := Kd.at_int HR0.out (ji8) p244 q244
                 cases e244
                 replace p244 := eq_true p244
                 replace q244 := eq_true q244
                 have p245 : 0 ≤ ((ji8) : Int) := of_decide_eq_true (by first | (with_reducible assumption) | assumption)
                 have q245 : (ji8) < (l0.length : Int) := of_decide_eq_true (by first | (with_reducible assumption) | assumption)
                 obtain ⟨ad245, e245, hx245_0⟩ := Kd.at_int HR0.out (ji8) p245 q245
                 obtain rfl : ad244 = ad245 := (by injection e245)
                 replace p245 := eq_true p245
                 replace q245 := eq_true q245
                 have p246 : 0 ≤ ((ji8) : Int) := of_decide_eq_true (by first | (with_reducible assumption) | assumption)
                 have q246 : (ji8) < (l0.length : Int) := of_decide_eq_true (by first | (with_reducible assumption) | assumption)
                 obtain ⟨ad246, e246, hx246_0⟩ := Kd.at_int HR0.out (ji8) p246 q246
                 obtain rfl : ad244 = ad246 := (by injection e246)
                 replace p246 := eq_true p246
                 replace q246 := eq_true q246
                 go_wp2
                 try (go_step3; (try go_wp2))
                 try simp only [Exit.noGoto_ret]
                 go_ret3
                 exact ⟨by first | rfl | (simp; done) | (simp only [← hji8, ← hji11, ← hji13] <;> (first | rfl | simp)) | (simp [*]; done), by repeat (first | exact Drawn0.refl _ | apply Drawn0.step)⟩
                ·
                 rw [if_neg c19] at H
                 have c19b0 : ((rd l0 (ji8)) == 0) = false := beq_eq_false_iff_ne.mpr c19
                 have c19b1 : ((rd l0 (ji8)) != 0) = true := bne_iff_ne.mpr c19
                 simp only [Option.some.injEq, Prod.mk.injEq] at H
                 obtain ⟨rfl, rfl, rfl⟩ := H
                 have p244 : 0 ≤ ((ji8) : Int) := of_decide_eq_true (by first | (with_reducible assumption) | assumption)
                 have q244 : (ji8) < (l0.length : Int) := of_decide_eq_true (by first | (with_reducible assumption) | assumption)
                 obtain ⟨ad244, e244, hx244_0⟩ := Kd.at_int HR0.out (ji8) p244 q244
                 cases e244
                 replace p244 := eq_true p244
                 replace q244 := eq_true q244
                 have p245 : 0 ≤ ((ji8) : Int) := of_decide_eq_true (by first | (with_reducible assumption) | assumption)
                 have q245 : (ji8) < (l0.length : Int) := of_decide_eq_true (by first | (with_reducible assumption) | assumption)
                 obtain ⟨ad245, e245, hx245_0⟩ := Kd.at_int HR0.out (ji8) p245 q245
                 obtain rfl : ad244 = ad245 := (by injection e245)
                 replace p245 := eq_true p245
                 replace q245 := eq_true q245
                 have p246 : 0 ≤ ((ji8) : Int) := of_decide_eq_true (by first | (with_reducible assumption) | assumption)
                 have q246 : (ji8) < (l0.length : Int) := of_decide_eq_true (by first | (with_reducible assumption) | assumption)
                 obtain ⟨ad246, e246, hx246_0⟩ := Kd.at_int HR0.out (ji8) p246 q246
                 obtain rfl : ad244 = ad246 := (by injection e246)
                 replace p246 := eq_true p246
                 replace q246 := eq_true q246
                 go_wp2
                 try (go_step3; (try go_wp2))
                 try simp only [Exit.noGoto_ret]
                 go_ret3
                 exact ⟨by first | rfl | (simp; done) | (simp only [← hji8, ← hji11, ← hji13] <;> (first | rfl | simp)) | (simp [*]; done), by repeat (first | exact Drawn0.refl _ | apply Drawn0.step)⟩
               ·
                rw [if_neg c18] at H
                have c18b0 : decide (0 < x7_2) = false := decide_eq_false c18
                clear c18
                simp only [Option.some.injEq, Prod.mk.injEq] at H
                obtain ⟨rfl, rfl, rfl⟩ := H
                have p244 : 0 ≤ ((ji8) : Int) := of_decide_eq_true (by first | (with_reducible assumption) | assumption)
                have q244 : (ji8) < (l0.length : Int) := of_decide_eq_true (by first | (with_reducible assumption) | assumption)
                obtain ⟨ad244, e244, hx244_0⟩ := Kd.at_int HR0.out (ji8) p244 q244
                cases e244
                replace p244 := eq_true p244
                replace q244 := eq_true q244
                have p245 : 0 ≤ ((ji8) : Int) := of_decide_eq_true (by first | (with_reducible assumption) | assumption)
                have q245 : (ji8) < (l0.length : Int) := of_decide_eq_true (by first | (with_reducible assumption) | assumption)
                obtain ⟨ad245, e245, hx245_0⟩ := Kd.at_int HR0.out (ji8) p245 q245
                obtain rfl : ad244 = ad245 := (by injection e245)
                replace p245 := eq_true p245
                replace q245 := eq_true q245
                go_wp2
                try (go_step3; (try go_wp2))
                try simp only [Exit.noGoto_ret]
                go_ret3
                exact ⟨by first | rfl | (simp; done) | (simp only [← hji8, ← hji11, ← hji13] <;> (first | rfl | simp)) | (simp [*]; done), by repeat (first | exact Drawn0.refl _ | apply Drawn0.step)⟩
             ·
              rw [if_neg c16] at H
              have c16b0 : (x7_2 == 9) = false := beq_eq_false_iff_ne.mpr c16
              have c16b1 : (x7_2 != 9) = true := bne_iff_ne.mpr c16
              by_cases c20 : x7_2 > 0
              ·
               rw [if_pos c20] at H
               have c20b0 : decide (0 < x7_2) = true := decide_eq_true c20
               clear c20
               by_cases c21 : (rd l0 (ji8)) = 0
               ·
                rw [if_pos c21] at H
                have c21b0 : ((rd l0 (ji8)) == 0) = true := beq_iff_eq.mpr c21
                have c21b1 : ((rd l0 (ji8)) != 0) = false := bne_eq_false_iff_eq.mpr c21
                clear c21
                simp only [Option.some.injEq, Prod.mk.injEq] at H
                obtain ⟨rfl, rfl, rfl⟩ := H
                have p244 : 0 ≤ ((ji8) : Int) := of_decide_eq_true (by first | (with_reducible assumption) | assumption)
                have q244 : (ji8) < (l0.length : Int) := of_decide_eq_true (by first | (with_reducible assumption) | assumption)
                obtain ⟨ad244, e244, hx244_0⟩ := Kd.at_int HR0.out (ji8) p244 q244
                cases e244
                replace p244 := eq_true p244
                replace q244 := eq_true q244
                have p247 : 0 ≤ ((ji8) : Int) := of_decide_eq_true (by first | (with_reducible assumption) | assumption)
                have q247 : (ji8) < (l0.length : Int) := of_decide_eq_true (by first | (with_reducible assumption) | assumption)
                obtain ⟨ad247, e247, hx247_0⟩ := Kd.at_int HR0.out (ji8) p247 q247
                obtain rfl : ad244 = ad247 := (by injection e247)
                replace p247 := eq_true p247
                replace q247 := eq_true q247
                go_wp2
                try (go_step3; (try go_wp2))
                try simp only [Exit.noGoto_ret]
                go_ret3
                exact ⟨by first | rfl | (simp; done) | (simp only [← hji8, ← hji11, ← hji13] <;> (first | rfl | simp)) | (simp [*]; done), by repeat (first | exact Drawn0.refl _ | apply Drawn0.step)⟩
               ·
                rw [if_neg c21] at H
                have c21b0 : ((rd l0 (ji8)) == 0) = false := beq_eq_false_iff_ne.mpr c21
                have c21b1 : ((rd l0 (ji8)) != 0) = true := bne_iff_ne.mpr c21
                simp only [Option.some.injEq, Prod.mk.injEq] at H
                obtain ⟨rfl, rfl, rfl⟩ := H
                have p244 : 0 ≤ ((ji8) : Int) := of_decide_eq_true (by first | (with_reducible assumption) | assumption)
                have q244 : (ji8) < (l0.length : Int) := of_decide_eq_true (by first | (with_reducible assumption) | assumption)
                obtain ⟨ad244, e244, hx244_0⟩ := Kd.at_int HR0.out (ji8) p244 q244
                cases e244
                replace p244 := eq_true p244
                replace q244 := eq_true q244
                have p247 : 0 ≤ ((ji8) : Int) := of_decide_eq_true (by first | (with_reducible assumption) | assumption)
                have q247 : (ji8) < (l0.length : Int) := of_decide_eq_true (by first | (with_reducible assumption) | assumption)
                obtain ⟨ad247, e247, hx247_0⟩ := Kd.at_int HR0.out (ji8) p247 q247
                obtain rfl : ad244 = ad247 := (by injection e247)
                replace p247 := eq_true p247
                replace q247 := eq_true q247
                go_wp2
                try (go_step3; (try go_wp2))
                try simp only [Exit.noGoto_ret]
                go_ret3
                exact ⟨by first | rfl | (simp; done) | (simp only [← hji8, ← hji11, ← hji13] <;> (first | rfl | simp)) | (simp [*]; done), by repeat (first | exact Drawn0.refl _ | apply Drawn0.step)⟩
              ·
               rw [if_neg c20] at H
               have c20b0 : decide (0 < x7_2) = false := decide_eq_false c20
               clear c20
               simp only [Option.some.injEq, Prod.mk.injEq] at H
               obtain ⟨rfl, rfl, rfl⟩ := H
               have p244 : 0 ≤ ((ji8) : Int) := of_decide_eq_true (by first | (with_reducible assumption) | assumption)
               have q244 : (ji8) < (l0.length : Int) := of_decide_eq_true (by first | (with_reducible assumption) | assumption)
               obtain ⟨ad244, e244, hx244_0⟩ := Kd.at_int HR0.out (ji8) p244 q244
               cases e244
               replace p244 := eq_true p244
               replace q244 := eq_true q244
               go_wp2
               try (go_step3; (try go_wp2))
               try simp only [Exit.noGoto_ret]
               go_ret3
               exact ⟨by first | rfl | (simp; done) | (simp only [← hji8, ← hji11, ← hji13] <;> (first | rfl | simp)) | (simp [*]; done), by repeat (first | exact Drawn0.refl _ | apply Drawn0.step)⟩
           ·
            rw [if_neg c14] at H
            have c14b0 : decide ((rd l0 (ji8)) < 128) = false := decide_eq_false c14
            clear c14
            have H' := Aside0.mk H
            clear H
            have p244 : 0 ≤ ((ji8) : Int) := of_decide_eq_true (by first | (with_reducible assumption) | assumption)
            have q244 : (ji8) < (l0.length : Int) := of_decide_eq_true (by first | (with_reducible assumption) | assumption)
            obtain ⟨ad244, e244, hx244_0⟩ := Kd.at_int HR0.out (ji8) p244 q244
            cases e244
            replace p244 := eq_true p244
            replace q244 := eq_true q244
            go_wp2
            try (go_step3; (try go_wp2))
            try simp only [Exit.noGoto_ret]
            go_roundg k2
            case measure => have := HJ2.out; have := HK2.out; omega
            case rel => exact ⟨(Go.bits .or .u64 x4_2 (ji13)), (wrap64 (x7_2 + 1)), (by first | rfl | (simp; done) | (simp only [← hji13] <;> (first | rfl | simp)) | (simp [*]; done)), (by first | rfl | (simp; done) | (simp [*]; done)), H', ⟨by have := HJ2.out; have := HK2.out; omega⟩, by repeat (first | exact Drawn0.refl _ | apply Drawn0.step)⟩
          ·
           rw [if_neg c12] at H
           exact absurd H (by simp)
         ·
          rw [if_neg c10] at H
          exact absurd H (by simp)
        ·
         rw [if_neg c9] at H
         exact absurd H (by simp)
      ·
       rw [if_neg c6] at H
       have c6b0 : decide (x7_2 < 10) = false := decide_eq_false c6
       clear c6
       by_cases c22 : x7_2 = 10
       ·
        rw [if_pos c22] at H
        have c22b0 : (x7_2 == 10) = true := beq_iff_eq.mpr c22
        have c22b1 : (x7_2 != 10) = false := bne_eq_false_iff_eq.mpr c22
        clear c22
        simp only [Option.some.injEq, Prod.mk.injEq] at H
        obtain ⟨rfl, rfl, rfl⟩ := H
        go_wp2
        try (go_step3; (try go_wp2))
        try simp only [Exit.noGoto_ret]
        go_ret3
        exact ⟨by first | rfl | (simp; done) | (simp [*]; done), by repeat (first | exact Drawn0.refl _ | apply Drawn0.step)⟩
       ·
        rw [if_neg c22] at H
        have c22b0 : (x7_2 == 10) = false := beq_eq_false_iff_ne.mpr c22
        have c22b1 : (x7_2 != 10) = true := bne_iff_ne.mpr c22
        by_cases c23 : x7_2 = 9
        ·
         rw [if_pos c23] at H
         have c23b0 : (x7_2 == 9) = true := beq_iff_eq.mpr c23
         have c23b1 : (x7_2 != 9) = false := bne_eq_false_iff_eq.mpr c23
         clear c23
         obtain ⟨ji24, hji24⟩ : ∃ j_ : Int, (wrap64 (a1 + x7_2)) = j_ := ⟨_, rfl⟩
         replace H : (if 0 ≤ (ji24) then (if (ji24) < (l0.length : Int) then (if (rd l0 (ji24)) > 1 then (some (0, 0, 5)) else (if x7_2 > 0 then (if (rd l0 (ji24)) = 0 then (some (0, 0, 5)) else (some (x4_2, wrap64 ((ji24) + 1), 0))) else (some (x4_2, wrap64 ((ji24) + 1), 0)))) else (none)) else (none)) = some (r1, r2, r3) := by first | (rw [hji24] at H; exact H) | (simp only [hji24] at H ⊢; exact H)
         have hji24w : (IntKind.i64.wrap (a1 + x7_2)) = ji24 := (i64_w _).trans hji24
         by_cases c25 : 0 ≤ (ji24)
         ·
          rw [if_pos c25] at H
          have c25b0 : decide (0 ≤ (ji24)) = true := decide_eq_true c25
          clear c25
          by_cases c26 : (ji24) < (l0.length : Int)
          ·
           rw [if_pos c26] at H
           have c26b0 : decide ((ji24) < (l0.length : Int)) = true := decide_eq_true c26
           clear c26
           by_cases c27 : (rd l0 (ji24)) > 1
           ·
            rw [if_pos c27] at H
            have c27b0 : decide (1 < (rd l0 (ji24))) = true := decide_eq_true c27
            clear c27
            simp only [Option.some.injEq, Prod.mk.injEq] at H
            obtain ⟨rfl, rfl, rfl⟩ := H
            have p241 : 0 ≤ ((ji24) : Int) := of_decide_eq_true (by first | (with_reducible assumption) | assumption)
            have q241 : (ji24) < (l0.length : Int) := of_decide_eq_true (by first | (with_reducible assumption) | assumption)
            obtain ⟨ad241, e241, hx241_0⟩ := Kd.at_int HR0.out (ji24) p241 q241
            cases e241
            replace p241 := eq_true p241
            replace q241 := eq_true q241
            go_wp2
            try (go_step3; (try go_wp2))
            try simp only [Exit.noGoto_ret]
            go_ret3
            exact ⟨by first | rfl | (simp; done) | (simp only [← hji24] <;> (first | rfl | simp)) | (simp [*]; done), by repeat (first | exact Drawn0.refl _ | apply Drawn0.step)⟩
           ·
            rw [if_neg c27] at H
            have c27b0 : decide (1 < (rd l0 (ji24))) = false := decide_eq_false c27
            clear c27
            by_cases c28 : x7_2 > 0
            ·
             rw [if_pos c28] at H
             have c28b0 : decide (0 < x7_2) = true := decide_eq_true c28
             clear c28
             by_cases c29 : (rd l0 (ji24)) = 0
             ·
              rw [if_pos c29] at H
              have c29b0 : ((rd l0 (ji24)) == 0) = true := beq_iff_eq.mpr c29
              have c29b1 : ((rd l0 (ji24)) != 0) = false := bne_eq_false_iff_eq.mpr c29
              clear c29
              simp only [Option.some.injEq, Prod.mk.injEq] at H
              obtain ⟨rfl, rfl, rfl⟩ := H
              have p241 : 0 ≤ ((ji24) : Int) := of_decide_eq_true (by first | (with_reducible assumption) | assumption)
              have q241 : (ji24) < (l0.length : Int) := of_decide_eq_true (by first | (with_reducible assumption) | assumption)
              obtain ⟨ad241, e241, hx241_0⟩ := Kd.at_int HR0.out (ji24) p241 q241
              cases e241
              replace p241 := eq_true p241
              replace q241 := eq_true q241
              have p242 : 0 ≤ ((ji24) : Int) := of_decide_eq_true (by first | (with_reducible assumption) | assumption)
              have q242 : (ji24) < (l0.length : Int) := of_decide_eq_true (by first | (with_reducible assumption) | assumption)
              obtain ⟨ad242, e242, hx242_0⟩ := Kd.at_int HR0.out (ji24) p242 q242
              obtain rfl : ad241 = ad242 := (by injection e242)
              replace p242 := eq_true p242
              replace q242 := eq_true q242
              go_wp2
              try (go_step3; (try go_wp2))
              try simp only [Exit.noGoto_ret]
              go_ret3
              exact ⟨by first | rfl | (simp; done) | (simp only [← hji24] <;> (first | rfl | simp)) | (simp [*]; done), by repeat (first | exact Drawn0.refl _ | apply Drawn0.step)⟩
             ·
              rw [if_neg c29] at H
              have c29b0 : ((rd l0 (ji24)) == 0) = false := beq_eq_false_iff_ne.mpr c29
              have c29b1 : ((rd l0 (ji24)) != 0) = true := bne_iff_ne.mpr c29
              simp only [Option.some.injEq, Prod.mk.injEq] at H
              obtain ⟨rfl, rfl, rfl⟩ := H
              have p241 : 0 ≤ ((ji24) : Int) := of_decide_eq_true (by first | (with_reducible assumption) | assumption)
              have q241 : (ji24) < (l0.length : Int) := of_decide_eq_true (by first | (with_reducible assumption) | assumption)
              obtain ⟨ad241, e241, hx241_0⟩ := Kd.at_int HR0.out (ji24) p241 q241
              cases e241
              replace p241 := eq_true p241
              replace q241 := eq_true q241
              have p242 : 0 ≤ ((ji24) : Int) := of_decide_eq_true (by first | (with_reducible assumption) | assumption)
              have q242 : (ji24) < (l0.length : Int) := of_decide_eq_true (by first | (with_reducible assumption) | assumption)
              obtain ⟨ad242, e242, hx242_0⟩ := Kd.at_int HR0.out (ji24) p242 q242
              obtain rfl : ad241 = ad242 := (by injection e242)
              replace p242 := eq_true p242
              replace q242 := eq_true q242
              go_wp2
              try (go_step3; (try go_wp2))
              try simp only [Exit.noGoto_ret]
              go_ret3
              exact ⟨by first | rfl | (simp; done) | (simp only [← hji24] <;> (first | rfl | simp)) | (simp [*]; done), by repeat (first | exact Drawn0.refl _ | apply Drawn0.step)⟩
            ·
             rw [if_neg c28] at H
             have c28b0 : decide (0 < x7_2) = false := decide_eq_false c28
             clear c28
             simp only [Option.some.injEq, Prod.mk.injEq] at H
             obtain ⟨rfl, rfl, rfl⟩ := H
             have p241 : 0 ≤ ((ji24) : Int) := of_decide_eq_true (by first | (with_reducible assumption) | assumption)
             have q241 : (ji24) < (l0.length : Int) := of_decide_eq_true (by first | (with_reducible assumption) | assumption)
             obtain ⟨ad241, e241, hx241_0⟩ := Kd.at_int HR0.out (ji24) p241 q241
             cases e241
             replace p241 := eq_true p241
             replace q241 := eq_true q241
             go_wp2
             try (go_step3; (try go_wp2))
             try simp only [Exit.noGoto_ret]
             go_ret3
             exact ⟨by first | rfl | (simp; done) | (simp only [← hji24] <;> (first | rfl | simp)) | (simp [*]; done), by repeat (first | exact Drawn0.refl _ | apply Drawn0.step)⟩
          ·
           rw [if_neg c26] at H
           exact absurd H (by simp)
         ·
          rw [if_neg c25] at H
          exact absurd H (by simp)
        ·
         rw [if_neg c23] at H
         have c23b0 : (x7_2 == 9) = false := beq_eq_false_iff_ne.mpr c23
         have c23b1 : (x7_2 != 9) = true := bne_iff_ne.mpr c23
         by_cases c30 : x7_2 > 0
         ·
          rw [if_pos c30] at H
          have c30b0 : decide (0 < x7_2) = true := decide_eq_true c30
          clear c30
          obtain ⟨ji31, hji31⟩ : ∃ j_ : Int, (wrap64 (a1 + x7_2)) = j_ := ⟨_, rfl⟩
          replace H : (if 0 ≤ (ji31) then (if (ji31) < (l0.length : Int) then (if (rd l0 (ji31)) = 0 then (some (0, 0, 5)) else (some (x4_2, wrap64 ((ji31) + 1), 0))) else (none)) else (none)) = some (r1, r2, r3) := by first | (rw [hji31] at H; exact H) | (simp only [hji31] at H ⊢; exact H)
          have hji31w : (IntKind.i64.wrap (a1 + x7_2)) = ji31 := (i64_w _).trans hji31
          by_cases c32 : 0 ≤ (ji31)
          ·
           rw [if_pos c32] at H
           have c32b0 : decide (0 ≤ (ji31)) = true := decide_eq_true c32
           clear c32
           by_cases c33 : (ji31) < (l0.length : Int)
           ·
            rw [if_pos c33] at H
            have c33b0 : decide ((ji31) < (l0.length : Int)) = true := decide_eq_true c33
            clear c33
            by_cases c34 : (rd l0 (ji31)) = 0
            ·
             rw [if_pos c34] at H
             have c34b0 : ((rd l0 (ji31)) == 0) = true := beq_iff_eq.mpr c34
             have c34b1 : ((rd l0 (ji31)) != 0) = false := bne_eq_false_iff_eq.mpr c34
             clear c34
             simp only [Option.some.injEq, Prod.mk.injEq] at H
             obtain ⟨rfl, rfl, rfl⟩ := H
             have p243 : 0 ≤ ((ji31) : Int) := of_decide_eq_true (by first | (with_reducible assumption) | assumption)
             have q243 : (ji31) < (l0.length : Int) := of_decide_eq_true (by first | (with_reducible assumption) | assumption)
             obtain ⟨ad243, e243, hx243_0⟩ := Kd.at_int HR0.out (ji31) p243 q243
             cases e243
             replace p243 := eq_true p243
             replace q243 := eq_true q243
             go_wp2
             try (go_step3; (try go_wp2))
             try simp only [Exit.noGoto_ret]
             go_ret3
             exact ⟨by first | rfl | (simp; done) | (simp only [← hji31] <;> (first | rfl | simp)) | (simp [*]; done), by repeat (first | exact Drawn0.refl _ | apply Drawn0.step)⟩
            ·
             rw [if_neg c34] at H
             have c34b0 : ((rd l0 (ji31)) == 0) = false := beq_eq_false_iff_ne.mpr c34
             have c34b1 : ((rd l0 (ji31)) != 0) = true := bne_iff_ne.mpr c34
             simp only [Option.some.injEq, Prod.mk.injEq] at H
             obtain ⟨rfl, rfl, rfl⟩ := H
             have p243 : 0 ≤ ((ji31) : Int) := of_decide_eq_true (by first | (with_reducible assumption) | assumption)
             have q243 : (ji31) < (l0.length : Int) := of_decide_eq_true (by first | (with_reducible assumption) | assumption)
             obtain ⟨ad243, e243, hx243_0⟩ := Kd.at_int HR0.out (ji31) p243 q243
             cases e243
             replace p243 := eq_true p243
             replace q243 := eq_true q243
             go_wp2
             try (go_step3; (try go_wp2))
             try simp only [Exit.noGoto_ret]
             go_ret3
             exact ⟨by first | rfl | (simp; done) | (simp only [← hji31] <;> (first | rfl | simp)) | (simp [*]; done), by repeat (first | exact Drawn0.refl _ | apply Drawn0.step)⟩
           ·
            rw [if_neg c33] at H
            exact absurd H (by simp)
          ·
           rw [if_neg c32] at H
           exact absurd H (by simp)
         ·
          rw [if_neg c30] at H
          have c30b0 : decide (0 < x7_2) = false := decide_eq_false c30
          clear c30
          simp only [Option.some.injEq, Prod.mk.injEq] at H
          obtain ⟨rfl, rfl, rfl⟩ := H
          go_wp2
          try (go_step3; (try go_wp2))
          try simp only [Exit.noGoto_ret]
          go_ret3
          exact ⟨by first | rfl | (simp; done) | (simp [*]; done), by repeat (first | exact Drawn0.refl _ | apply Drawn0.step)⟩

end Go.Proofs.Ytjefgdggjchhbaa.PAll
