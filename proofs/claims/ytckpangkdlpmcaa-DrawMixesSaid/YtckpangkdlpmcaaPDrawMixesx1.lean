-- PRINTED BY print.sh 35421559b90ae4d0a3588c463048766b98c2df88dd9212a6774a882060cdf62d: not written by this session
import Derived.Test.YtckpangkdlpmcaaPDrawMixesx0
namespace Go.Proofs.Ytckpangkdlpmcaa.PDrawMixes
open Go.RowKit Go.Proofs.YtckpangkdlpmcaaW.PrintWords Go.Proofs.YtckpangkdlpmcaaW.PrintLast Go.Proofs.YtckpangkdlpmcaaW.PrintMore
attribute [local go_sem] max2_int min2_int max_two min_two max_three min_three max_four min_four   -- for this text's walks alone
set_option linter.unusedVariables false
set_option linter.unusedSimpArgs false

/-! ### draw_Mix: function 10 -/
def draw_Mix.f (a0 : Int) : Option (Int) := some (Go.bits .xor .u64 (IntKind.u64.wrap ((Go.bits .xor .u64 (IntKind.u64.wrap ((Go.bits .xor .u64 a0 (a0 / 1073741824)) * 13787848793156543929)) ((IntKind.u64.wrap ((Go.bits .xor .u64 a0 (a0 / 1073741824)) * 13787848793156543929)) / 134217728)) * 10723151780598845931)) ((IntKind.u64.wrap ((Go.bits .xor .u64 (IntKind.u64.wrap ((Go.bits .xor .u64 a0 (a0 / 1073741824)) * 13787848793156543929)) ((IntKind.u64.wrap ((Go.bits .xor .u64 a0 (a0 / 1073741824)) * 13787848793156543929)) / 134217728)) * 10723151780598845931)) / 2147483648))
set_option maxHeartbeats 8000000 in
set_option maxRecDepth 100000 in
theorem draw_Mix.calls (a0 : Int) (r : Int) (w : World) (h : draw_Mix.f a0 = some r) :
    Calls Try.prog 10 #[.int .u64 a0] w fun e w' => e = .returned (.int .u64 r) ∧ Drawn0 w w' := by
  have H : (some (Go.bits .xor .u64 (IntKind.u64.wrap ((Go.bits .xor .u64 (IntKind.u64.wrap ((Go.bits .xor .u64 a0 (a0 / 1073741824)) * 13787848793156543929)) ((IntKind.u64.wrap ((Go.bits .xor .u64 a0 (a0 / 1073741824)) * 13787848793156543929)) / 134217728)) * 10723151780598845931)) ((IntKind.u64.wrap ((Go.bits .xor .u64 (IntKind.u64.wrap ((Go.bits .xor .u64 a0 (a0 / 1073741824)) * 13787848793156543929)) ((IntKind.u64.wrap ((Go.bits .xor .u64 a0 (a0 / 1073741824)) * 13787848793156543929)) / 134217728)) * 10723151780598845931)) / 2147483648))) = some r := h
  clear h
  obtain rfl := Option.some.inj H
  go_enter Try.func10, Try.ntmps10
  go_wp2
  go_ret
  exact ⟨by first | rfl | (simp; done) | (simp [*]; done), by repeat (first | exact Drawn0.refl _ | apply Drawn0.step)⟩

/-! ### stookref05_Mix: function 11 -/
def stookref05_Mix.f (a0 : Int) : Option (Int) := some (Go.bits .xor .u64 (IntKind.u64.wrap ((Go.bits .xor .u64 (IntKind.u64.wrap ((Go.bits .xor .u64 a0 (a0 / 1073741824)) * 13787848793156543929)) ((IntKind.u64.wrap ((Go.bits .xor .u64 a0 (a0 / 1073741824)) * 13787848793156543929)) / 134217728)) * 10723151780598845931)) ((IntKind.u64.wrap ((Go.bits .xor .u64 (IntKind.u64.wrap ((Go.bits .xor .u64 a0 (a0 / 1073741824)) * 13787848793156543929)) ((IntKind.u64.wrap ((Go.bits .xor .u64 a0 (a0 / 1073741824)) * 13787848793156543929)) / 134217728)) * 10723151780598845931)) / 2147483648))
set_option maxHeartbeats 8000000 in
set_option maxRecDepth 100000 in
theorem stookref05_Mix.calls (a0 : Int) (r : Int) (w : World) (h : stookref05_Mix.f a0 = some r) :
    Calls Try.prog 11 #[.int .u64 a0] w fun e w' => e = .returned (.int .u64 r) ∧ Drawn0 w w' := by
  have H : (some (Go.bits .xor .u64 (IntKind.u64.wrap ((Go.bits .xor .u64 (IntKind.u64.wrap ((Go.bits .xor .u64 a0 (a0 / 1073741824)) * 13787848793156543929)) ((IntKind.u64.wrap ((Go.bits .xor .u64 a0 (a0 / 1073741824)) * 13787848793156543929)) / 134217728)) * 10723151780598845931)) ((IntKind.u64.wrap ((Go.bits .xor .u64 (IntKind.u64.wrap ((Go.bits .xor .u64 a0 (a0 / 1073741824)) * 13787848793156543929)) ((IntKind.u64.wrap ((Go.bits .xor .u64 a0 (a0 / 1073741824)) * 13787848793156543929)) / 134217728)) * 10723151780598845931)) / 2147483648))) = some r := h
  clear h
  obtain rfl := Option.some.inj H
  go_enter Try.func11, Try.ntmps11
  go_wp2
  go_ret
  exact ⟨by first | rfl | (simp; done) | (simp [*]; done), by repeat (first | exact Drawn0.refl _ | apply Drawn0.step)⟩

/-! ### draw_Unmix: function 12 -/
def draw_Unmix.f (a0 : Int) : Option (Int) := some (Go.bits .xor .u64 (Go.bits .xor .u64 (IntKind.u64.wrap ((Go.bits .xor .u64 (Go.bits .xor .u64 (IntKind.u64.wrap ((Go.bits .xor .u64 (Go.bits .xor .u64 a0 (a0 / 2147483648)) (a0 / 4611686018427387904)) * 3573116690164977347)) ((IntKind.u64.wrap ((Go.bits .xor .u64 (Go.bits .xor .u64 a0 (a0 / 2147483648)) (a0 / 4611686018427387904)) * 3573116690164977347)) / 134217728)) ((IntKind.u64.wrap ((Go.bits .xor .u64 (Go.bits .xor .u64 a0 (a0 / 2147483648)) (a0 / 4611686018427387904)) * 3573116690164977347)) / 18014398509481984)) * 10871156337175269513)) ((IntKind.u64.wrap ((Go.bits .xor .u64 (Go.bits .xor .u64 (IntKind.u64.wrap ((Go.bits .xor .u64 (Go.bits .xor .u64 a0 (a0 / 2147483648)) (a0 / 4611686018427387904)) * 3573116690164977347)) ((IntKind.u64.wrap ((Go.bits .xor .u64 (Go.bits .xor .u64 a0 (a0 / 2147483648)) (a0 / 4611686018427387904)) * 3573116690164977347)) / 134217728)) ((IntKind.u64.wrap ((Go.bits .xor .u64 (Go.bits .xor .u64 a0 (a0 / 2147483648)) (a0 / 4611686018427387904)) * 3573116690164977347)) / 18014398509481984)) * 10871156337175269513)) / 1073741824)) ((IntKind.u64.wrap ((Go.bits .xor .u64 (Go.bits .xor .u64 (IntKind.u64.wrap ((Go.bits .xor .u64 (Go.bits .xor .u64 a0 (a0 / 2147483648)) (a0 / 4611686018427387904)) * 3573116690164977347)) ((IntKind.u64.wrap ((Go.bits .xor .u64 (Go.bits .xor .u64 a0 (a0 / 2147483648)) (a0 / 4611686018427387904)) * 3573116690164977347)) / 134217728)) ((IntKind.u64.wrap ((Go.bits .xor .u64 (Go.bits .xor .u64 a0 (a0 / 2147483648)) (a0 / 4611686018427387904)) * 3573116690164977347)) / 18014398509481984)) * 10871156337175269513)) / 1152921504606846976))
set_option maxHeartbeats 8000000 in
set_option maxRecDepth 100000 in
theorem draw_Unmix.calls (a0 : Int) (r : Int) (w : World) (h : draw_Unmix.f a0 = some r) :
    Calls Try.prog 12 #[.int .u64 a0] w fun e w' => e = .returned (.int .u64 r) ∧ Drawn0 w w' := by
  have H : (some (Go.bits .xor .u64 (Go.bits .xor .u64 (IntKind.u64.wrap ((Go.bits .xor .u64 (Go.bits .xor .u64 (IntKind.u64.wrap ((Go.bits .xor .u64 (Go.bits .xor .u64 a0 (a0 / 2147483648)) (a0 / 4611686018427387904)) * 3573116690164977347)) ((IntKind.u64.wrap ((Go.bits .xor .u64 (Go.bits .xor .u64 a0 (a0 / 2147483648)) (a0 / 4611686018427387904)) * 3573116690164977347)) / 134217728)) ((IntKind.u64.wrap ((Go.bits .xor .u64 (Go.bits .xor .u64 a0 (a0 / 2147483648)) (a0 / 4611686018427387904)) * 3573116690164977347)) / 18014398509481984)) * 10871156337175269513)) ((IntKind.u64.wrap ((Go.bits .xor .u64 (Go.bits .xor .u64 (IntKind.u64.wrap ((Go.bits .xor .u64 (Go.bits .xor .u64 a0 (a0 / 2147483648)) (a0 / 4611686018427387904)) * 3573116690164977347)) ((IntKind.u64.wrap ((Go.bits .xor .u64 (Go.bits .xor .u64 a0 (a0 / 2147483648)) (a0 / 4611686018427387904)) * 3573116690164977347)) / 134217728)) ((IntKind.u64.wrap ((Go.bits .xor .u64 (Go.bits .xor .u64 a0 (a0 / 2147483648)) (a0 / 4611686018427387904)) * 3573116690164977347)) / 18014398509481984)) * 10871156337175269513)) / 1073741824)) ((IntKind.u64.wrap ((Go.bits .xor .u64 (Go.bits .xor .u64 (IntKind.u64.wrap ((Go.bits .xor .u64 (Go.bits .xor .u64 a0 (a0 / 2147483648)) (a0 / 4611686018427387904)) * 3573116690164977347)) ((IntKind.u64.wrap ((Go.bits .xor .u64 (Go.bits .xor .u64 a0 (a0 / 2147483648)) (a0 / 4611686018427387904)) * 3573116690164977347)) / 134217728)) ((IntKind.u64.wrap ((Go.bits .xor .u64 (Go.bits .xor .u64 a0 (a0 / 2147483648)) (a0 / 4611686018427387904)) * 3573116690164977347)) / 18014398509481984)) * 10871156337175269513)) / 1152921504606846976))) = some r := h
  clear h
  obtain rfl := Option.some.inj H
  go_enter Try.func12, Try.ntmps12
  go_wp2
  go_ret
  exact ⟨by first | rfl | (simp; done) | (simp [*]; done), by repeat (first | exact Drawn0.refl _ | apply Drawn0.step)⟩

/-! ### stookref05_against: function 21 -/
def stookref05_against.l0 : Nat → Int → Int → Int → Int → Option (Int)
  | 0, _, _, _, _ => none
  | k + 1, x0, x1, x5, x6 => if x6 ≥ 0 then (if 0 ≤ (IntKind.u64.wrap (x6)) then (if (wrap64 (x6 + x1)) < 64 then (if 0 ≤ (IntKind.u64.wrap (wrap64 (x6 + x1))) then (stookref05_against.l0 k x0 x1 (Go.bits .or .u64 x5 (shl .u64 (Go.bits .xor .u64 (Go.bits .and .u64 (shr .u64 x0 (IntKind.u64.wrap (x6))) 1) (Go.bits .and .u64 (shr .u64 x5 (IntKind.u64.wrap (wrap64 (x6 + x1)))) 1)) (IntKind.u64.wrap (x6)))) (wrap64 (x6 - 1))) else (none)) else (stookref05_against.l0 k x0 x1 (Go.bits .or .u64 x5 (shl .u64 (Go.bits .and .u64 (shr .u64 x0 (IntKind.u64.wrap (x6))) 1) (IntKind.u64.wrap (x6)))) (wrap64 (x6 - 1)))) else (none)) else (some x5)
def stookref05_against.f (k : Nat) (a0 : Int) (a1 : Int) : Option (Int) := stookref05_against.l0 k a0 a1 0 63
theorem stookref05_against.mono_l : ∀ k, (∀ y0 y1 y2 y3, LeO (stookref05_against.l0 k y0 y1 y2 y3) (stookref05_against.l0 (k + 1) y0 y1 y2 y3))
  | 0 => fun _ _ _ _ r h => by simp [stookref05_against.l0] at h
  | k + 1 => by
    have ih0 := stookref05_against.mono_l k
    · intro y0 y1 y2 y3
      unfold stookref05_against.l0
      repeat' first
      | (with_reducible exact ih0 _ _ _ _)
      | (with_reducible exact LeO.refl _)
      | (with_reducible exact LeO.none _)
      | (with_reducible refine LeO.ite ?_ ?_)
      | (with_reducible refine LeO.bind ?_ (fun _ => ?_))
      | exact ih0 _ _ _ _
      | exact LeO.none _
      | refine LeO.ite ?_ ?_
      | refine LeO.bind ?_ (fun _ => ?_)
theorem stookref05_against.mono : ∀ a0 a1 k, LeO (stookref05_against.f k a0 a1) (stookref05_against.f (k + 1) a0 a1) := by
  intro a0 a1 k
  have ih0 := stookref05_against.mono_l k
  unfold stookref05_against.f
  repeat' first
      | (with_reducible exact ih0 _ _ _ _)
      | (with_reducible exact LeO.refl _)
      | (with_reducible exact LeO.none _)
      | (with_reducible refine LeO.ite ?_ ?_)
      | (with_reducible refine LeO.bind ?_ (fun _ => ?_))
      | exact ih0 _ _ _ _
      | exact LeO.none _
      | refine LeO.ite ?_ ?_
      | refine LeO.bind ?_ (fun _ => ?_)
set_option maxHeartbeats 8000000 in
set_option maxRecDepth 100000 in
theorem stookref05_against.calls (k : Nat) (a0 : Int) (a1 : Int) (r : Int) (w : World) (h : stookref05_against.f k a0 a1 = some r) :
    Calls Try.prog 21 #[.int .u64 a0, .int .i64 a1] w fun e w' => e = .returned (.int .u64 r) ∧ Drawn0 w w' := by
  have H : (stookref05_against.l0 k a0 a1 0 63) = some r := h
  clear h
  have H' := Aside0.mk H
  clear H
  go_enter Try.func21, Try.ntmps21
  go_wp2
  go_loopg [5, 6] k (fun kq v5 v6 w' => ∃ (x5_1 : Int) (x6_1 : Int), v5 = .int .u64 x5_1 ∧ v6 = .int .i64 x6_1 ∧ Aside0 (stookref05_against.l0 kq a0 a1 x5_1 x6_1 = some r) ∧ Aside0 (kq ≤ k) ∧ Drawn0 w w')
  case atStart => exact ⟨(0), (63), (by first | rfl | (simp; done) | (simp [*]; done)), (by first | rfl | (simp; done) | (simp [*]; done)), H', ⟨Nat.le_refl _⟩, by repeat (first | exact Drawn0.refl _ | apply Drawn0.step)⟩
  case round =>
    clear H'
    try clear c2
    try clear p2
    obtain ⟨x5_1, x6_1, rfl, rfl, HA, HK1, ⟨m1, rfl⟩⟩ := hrel
    cases gk with
    | zero => exact absurd HA.out (by simp [stookref05_against.l0])
    | succ k1 =>
      have H := HA.out
      clear HA
      simp only [stookref05_against.l0] at H
      by_cases c3 : x6_1 ≥ 0
      · rw [if_pos c3] at H
        have c3b0 : decide (0 ≤ x6_1) = true := decide_eq_true c3
        clear c3
        obtain ⟨ji4, hji4⟩ : ∃ j_ : Int, (IntKind.u64.wrap (x6_1)) = j_ := ⟨_, rfl⟩
        replace H : (if 0 ≤ (ji4) then (if (wrap64 (x6_1 + a1)) < 64 then (if 0 ≤ (IntKind.u64.wrap (wrap64 (x6_1 + a1))) then (stookref05_against.l0 k1 a0 a1 (Go.bits .or .u64 x5_1 (shl .u64 (Go.bits .xor .u64 (Go.bits .and .u64 (shr .u64 a0 (ji4)) 1) (Go.bits .and .u64 (shr .u64 x5_1 (IntKind.u64.wrap (wrap64 (x6_1 + a1)))) 1)) (ji4))) (wrap64 (x6_1 - 1))) else (none)) else (stookref05_against.l0 k1 a0 a1 (Go.bits .or .u64 x5_1 (shl .u64 (Go.bits .and .u64 (shr .u64 a0 (ji4)) 1) (ji4))) (wrap64 (x6_1 - 1)))) else (none)) = some r := by first | (rw [hji4] at H; exact H) | (simp only [hji4] at H ⊢; exact H)
        by_cases c5 : 0 ≤ (ji4)
        · rw [if_pos c5] at H
          have c5b0 := eq_true c5
          have c5b1 : decide (0 ≤ (ji4)) = true := decide_eq_true c5
          clear c5
          obtain ⟨ji6, hji6⟩ : ∃ j_ : Int, (shr .u64 a0 (ji4)) = j_ := ⟨_, rfl⟩
          replace H : (if (wrap64 (x6_1 + a1)) < 64 then (if 0 ≤ (IntKind.u64.wrap (wrap64 (x6_1 + a1))) then (stookref05_against.l0 k1 a0 a1 (Go.bits .or .u64 x5_1 (shl .u64 (Go.bits .xor .u64 (Go.bits .and .u64 (ji6) 1) (Go.bits .and .u64 (shr .u64 x5_1 (IntKind.u64.wrap (wrap64 (x6_1 + a1)))) 1)) (ji4))) (wrap64 (x6_1 - 1))) else (none)) else (stookref05_against.l0 k1 a0 a1 (Go.bits .or .u64 x5_1 (shl .u64 (Go.bits .and .u64 (ji6) 1) (ji4))) (wrap64 (x6_1 - 1)))) = some r := by first | (rw [hji6] at H; exact H) | (simp only [hji6] at H ⊢; exact H)
          have hji6_ : (a0 / 2 ^ min (ji4).toNat 64) = ji6 := hji6
          have hji6z : (ji4) ≤ 64 → (a0 / 2 ^ (ji4).toNat) = ji6 := shr_small hji6
          by_cases c7 : (wrap64 (x6_1 + a1)) < 64
          · rw [if_pos c7] at H
            have c7b0 : decide ((wrap64 (x6_1 + a1)) < 64) = true := decide_eq_true c7
            clear c7
            obtain ⟨ji8, hji8⟩ : ∃ j_ : Int, (IntKind.u64.wrap (wrap64 (x6_1 + a1))) = j_ := ⟨_, rfl⟩
            replace H : (if 0 ≤ (ji8) then (stookref05_against.l0 k1 a0 a1 (Go.bits .or .u64 x5_1 (shl .u64 (Go.bits .xor .u64 (Go.bits .and .u64 (ji6) 1) (Go.bits .and .u64 (shr .u64 x5_1 (ji8)) 1)) (ji4))) (wrap64 (x6_1 - 1))) else (none)) = some r := by first | (rw [hji8] at H; exact H) | (simp only [hji8] at H ⊢; exact H)
            by_cases c9 : 0 ≤ (ji8)
            · rw [if_pos c9] at H
              have c9b0 := eq_true c9
              have c9b1 : decide (0 ≤ (ji8)) = true := decide_eq_true c9
              clear c9
              obtain ⟨ji10, hji10⟩ : ∃ j_ : Int, (shr .u64 x5_1 (ji8)) = j_ := ⟨_, rfl⟩
              replace H : (stookref05_against.l0 k1 a0 a1 (Go.bits .or .u64 x5_1 (shl .u64 (Go.bits .xor .u64 (Go.bits .and .u64 (ji6) 1) (Go.bits .and .u64 (ji10) 1)) (ji4))) (wrap64 (x6_1 - 1))) = some r := by first | (rw [hji10] at H; exact H) | (simp only [hji10] at H ⊢; exact H)
              have hji10_ : (x5_1 / 2 ^ min (ji8).toNat 64) = ji10 := hji10
              have hji10z : (ji8) ≤ 64 → (x5_1 / 2 ^ (ji8).toNat) = ji10 := shr_small hji10
              have c11b0 := eq_true (of_decide_eq_true (by first | (with_reducible assumption) | assumption) : 0 ≤ (ji4))
              obtain ⟨ji12, hji12⟩ : ∃ j_ : Int, (shl .u64 (Go.bits .xor .u64 (Go.bits .and .u64 (ji6) 1) (Go.bits .and .u64 (ji10) 1)) (ji4)) = j_ := ⟨_, rfl⟩
              replace H : (stookref05_against.l0 k1 a0 a1 (Go.bits .or .u64 x5_1 (ji12)) (wrap64 (x6_1 - 1))) = some r := by first | (rw [hji12] at H; exact H) | (simp only [hji12] at H ⊢; exact H)
              have hji12_ : (IntKind.u64.wrap ((Go.bits .xor .u64 (Go.bits .and .u64 (ji6) 1) (Go.bits .and .u64 (ji10) 1)) * 2 ^ min (ji4).toNat 64)) = ji12 := hji12
              have hji12z : (ji4) ≤ 64 → (IntKind.u64.wrap ((Go.bits .xor .u64 (Go.bits .and .u64 (ji6) 1) (Go.bits .and .u64 (ji10) 1)) * 2 ^ (ji4).toNat)) = ji12 := shl_small hji12
              have H' := Aside0.mk H
              clear H
              go_wp2
              go_roundg k1
              case measure => have := HK1.out; omega
              case rel => exact ⟨(Go.bits .or .u64 x5_1 (ji12)), (wrap64 (x6_1 - 1)), (by first | rfl | (simp; done) | (simp only [← hji12] <;> (first | rfl | simp)) | (simp [*]; done)), (by first | rfl | (simp; done) | (simp [*]; done)), H', ⟨by have := HK1.out; omega⟩, by repeat (first | exact Drawn0.refl _ | apply Drawn0.step)⟩
            · rw [if_neg c9] at H
              exact absurd H (by simp)
          · rw [if_neg c7] at H
            have c7b0 : decide ((wrap64 (x6_1 + a1)) < 64) = false := decide_eq_false c7
            clear c7
            have c13b0 := eq_true (of_decide_eq_true (by first | (with_reducible assumption) | assumption) : 0 ≤ (ji4))
            obtain ⟨ji14, hji14⟩ : ∃ j_ : Int, (shl .u64 (Go.bits .and .u64 (ji6) 1) (ji4)) = j_ := ⟨_, rfl⟩
            replace H : (stookref05_against.l0 k1 a0 a1 (Go.bits .or .u64 x5_1 (ji14)) (wrap64 (x6_1 - 1))) = some r := by first | (rw [hji14] at H; exact H) | (simp only [hji14] at H ⊢; exact H)
            have hji14_ : (IntKind.u64.wrap ((Go.bits .and .u64 (ji6) 1) * 2 ^ min (ji4).toNat 64)) = ji14 := hji14
            have hji14z : (ji4) ≤ 64 → (IntKind.u64.wrap ((Go.bits .and .u64 (ji6) 1) * 2 ^ (ji4).toNat)) = ji14 := shl_small hji14
            have H' := Aside0.mk H
            clear H
            go_wp2
            go_roundg k1
            case measure => have := HK1.out; omega
            case rel => exact ⟨(Go.bits .or .u64 x5_1 (ji14)), (wrap64 (x6_1 - 1)), (by first | rfl | (simp; done) | (simp only [← hji14] <;> (first | rfl | simp)) | (simp [*]; done)), (by first | rfl | (simp; done) | (simp [*]; done)), H', ⟨by have := HK1.out; omega⟩, by repeat (first | exact Drawn0.refl _ | apply Drawn0.step)⟩
        · rw [if_neg c5] at H
          exact absurd H (by simp)
      · rw [if_neg c3] at H
        have c3b0 : decide (0 ≤ x6_1) = false := decide_eq_false c3
        clear c3
        obtain rfl := Option.some.inj H
        go_wp2
        go_ret
        exact ⟨by first | rfl | (simp; done) | (simp [*]; done), by repeat (first | exact Drawn0.refl _ | apply Drawn0.step)⟩

/-! ### stookref05_by: function 22 -/
def stookref05_by.l0 : Nat → Int → Int → Int → Option (Int)
  | 0, _, _, _ => none
  | k + 1, x0, x3, x4 => if x4 < 6 then (stookref05_by.l0 k x0 (IntKind.u64.wrap (x3 * (IntKind.u64.wrap (2 - (IntKind.u64.wrap (x0 * x3)))))) (wrap64 (x4 + 1))) else (some x3)
def stookref05_by.f (k : Nat) (a0 : Int) : Option (Int) := stookref05_by.l0 k a0 a0 0
theorem stookref05_by.mono_l : ∀ k, (∀ y0 y1 y2, LeO (stookref05_by.l0 k y0 y1 y2) (stookref05_by.l0 (k + 1) y0 y1 y2))
  | 0 => fun _ _ _ r h => by simp [stookref05_by.l0] at h
  | k + 1 => by
    have ih0 := stookref05_by.mono_l k
    · intro y0 y1 y2
      unfold stookref05_by.l0
      repeat' first
      | (with_reducible exact ih0 _ _ _)
      | (with_reducible exact LeO.refl _)
      | (with_reducible exact LeO.none _)
      | (with_reducible refine LeO.ite ?_ ?_)
      | (with_reducible refine LeO.bind ?_ (fun _ => ?_))
      | exact ih0 _ _ _
      | exact LeO.none _
      | refine LeO.ite ?_ ?_
      | refine LeO.bind ?_ (fun _ => ?_)
theorem stookref05_by.mono : ∀ a0 k, LeO (stookref05_by.f k a0) (stookref05_by.f (k + 1) a0) := by
  intro a0 k
  have ih0 := stookref05_by.mono_l k
  unfold stookref05_by.f
  repeat' first
      | (with_reducible exact ih0 _ _ _)
      | (with_reducible exact LeO.refl _)
      | (with_reducible exact LeO.none _)
      | (with_reducible refine LeO.ite ?_ ?_)
      | (with_reducible refine LeO.bind ?_ (fun _ => ?_))
      | exact ih0 _ _ _
      | exact LeO.none _
      | refine LeO.ite ?_ ?_
      | refine LeO.bind ?_ (fun _ => ?_)
set_option maxHeartbeats 8000000 in
set_option maxRecDepth 100000 in
theorem stookref05_by.calls (k : Nat) (a0 : Int) (r : Int) (w : World) (h : stookref05_by.f k a0 = some r) :
    Calls Try.prog 22 #[.int .u64 a0] w fun e w' => e = .returned (.int .u64 r) ∧ Drawn0 w w' := by
  have H : (stookref05_by.l0 k a0 a0 0) = some r := h
  clear h
  have H' := Aside0.mk H
  clear H
  go_enter Try.func22, Try.ntmps22
  go_wp2
  go_loopg [3, 4] k (fun kq v3 v4 w' => ∃ (x3_1 : Int) (x4_1 : Int), v3 = .int .u64 x3_1 ∧ v4 = .int .i64 x4_1 ∧ Aside0 (stookref05_by.l0 kq a0 x3_1 x4_1 = some r) ∧ Aside0 (kq ≤ k) ∧ Drawn0 w w')
  case atStart => exact ⟨(a0), (0), (by first | rfl | (simp; done) | (simp [*]; done)), (by first | rfl | (simp; done) | (simp [*]; done)), H', ⟨Nat.le_refl _⟩, by repeat (first | exact Drawn0.refl _ | apply Drawn0.step)⟩
  case round =>
    clear H'
    obtain ⟨x3_1, x4_1, rfl, rfl, HA, HK1, ⟨m1, rfl⟩⟩ := hrel
    cases gk with
    | zero => exact absurd HA.out (by simp [stookref05_by.l0])
    | succ k1 =>
      have H := HA.out
      clear HA
      simp only [stookref05_by.l0] at H
      by_cases c2 : x4_1 < 6
      · rw [if_pos c2] at H
        have c2b0 : decide (x4_1 < 6) = true := decide_eq_true c2
        clear c2
        have H' := Aside0.mk H
        clear H
        go_wp2
        go_roundg k1
        case measure => have := HK1.out; omega
        case rel => exact ⟨(IntKind.u64.wrap (x3_1 * (IntKind.u64.wrap (2 - (IntKind.u64.wrap (a0 * x3_1)))))), (wrap64 (x4_1 + 1)), (by first | rfl | (simp; done) | (simp [*]; done)), (by first | rfl | (simp; done) | (simp [*]; done)), H', ⟨by have := HK1.out; omega⟩, by repeat (first | exact Drawn0.refl _ | apply Drawn0.step)⟩
      · rw [if_neg c2] at H
        have c2b0 : decide (x4_1 < 6) = false := decide_eq_false c2
        clear c2
        obtain rfl := Option.some.inj H
        go_wp2
        go_ret
        exact ⟨by first | rfl | (simp; done) | (simp [*]; done), by repeat (first | exact Drawn0.refl _ | apply Drawn0.step)⟩

/-! ### stookref05_Unmix: function 13 -/
def stookref05_Unmix.f (k : Nat) (a0 : Int) : Option (Int) := (stookref05_against.f k a0 31).bind fun t101 => ((stookref05_by.f k 10723151780598845931).bind fun t102 => ((stookref05_against.f k (IntKind.u64.wrap (t101 * t102)) 27).bind fun t103 => ((stookref05_by.f k 13787848793156543929).bind fun t104 => ((stookref05_against.f k (IntKind.u64.wrap (t103 * t104)) 30).bind fun t105 => (some t105)))))
theorem stookref05_Unmix.mono : ∀ a0 k, LeO (stookref05_Unmix.f k a0) (stookref05_Unmix.f (k + 1) a0) := by
  intro a0 k
  unfold stookref05_Unmix.f
  repeat' first
      | (with_reducible exact stookref05_against.mono _ _ _)
      | (with_reducible exact stookref05_by.mono _ _)
      | (with_reducible exact LeO.refl _)
      | (with_reducible exact LeO.none _)
      | (with_reducible refine LeO.ite ?_ ?_)
      | (with_reducible refine LeO.bind ?_ (fun _ => ?_))
      | exact stookref05_against.mono _ _ _
      | exact stookref05_by.mono _ _
      | exact LeO.none _
      | refine LeO.ite ?_ ?_
      | refine LeO.bind ?_ (fun _ => ?_)
set_option maxHeartbeats 8000000 in
set_option maxRecDepth 100000 in
theorem stookref05_Unmix.calls (k : Nat) (a0 : Int) (r : Int) (w : World) (h : stookref05_Unmix.f k a0 = some r) :
    Calls Try.prog 13 #[.int .u64 a0] w fun e w' => e = .returned (.int .u64 r) ∧ Drawn0 w w' := by
  have H : ((stookref05_against.f k a0 31).bind fun t101 => ((stookref05_by.f k 10723151780598845931).bind fun t102 => ((stookref05_against.f k (IntKind.u64.wrap (t101 * t102)) 27).bind fun t103 => ((stookref05_by.f k 13787848793156543929).bind fun t104 => ((stookref05_against.f k (IntKind.u64.wrap (t103 * t104)) 30).bind fun t105 => (some t105)))))) = some r := h
  clear h
  replace H := Option.bind_eq_some_iff.mp H
  obtain ⟨t101, A20, H⟩ := H
  replace H : ((stookref05_by.f k 10723151780598845931).bind fun t102 => ((stookref05_against.f k (IntKind.u64.wrap (t101 * t102)) 27).bind fun t103 => ((stookref05_by.f k 13787848793156543929).bind fun t104 => ((stookref05_against.f k (IntKind.u64.wrap (t103 * t104)) 30).bind fun t105 => (some t105))))) = some r := H
  have A2 := Aside0.mk A20
  clear A20
  replace H := Option.bind_eq_some_iff.mp H
  obtain ⟨t102, A30, H⟩ := H
  replace H : ((stookref05_against.f k (IntKind.u64.wrap (t101 * t102)) 27).bind fun t103 => ((stookref05_by.f k 13787848793156543929).bind fun t104 => ((stookref05_against.f k (IntKind.u64.wrap (t103 * t104)) 30).bind fun t105 => (some t105)))) = some r := H
  have A3 := Aside0.mk A30
  clear A30
  replace H := Option.bind_eq_some_iff.mp H
  obtain ⟨t103, A40, H⟩ := H
  replace H : ((stookref05_by.f k 13787848793156543929).bind fun t104 => ((stookref05_against.f k (IntKind.u64.wrap (t103 * t104)) 30).bind fun t105 => (some t105))) = some r := H
  have A4 := Aside0.mk A40
  clear A40
  replace H := Option.bind_eq_some_iff.mp H
  obtain ⟨t104, A50, H⟩ := H
  replace H : ((stookref05_against.f k (IntKind.u64.wrap (t103 * t104)) 30).bind fun t105 => (some t105)) = some r := H
  have A5 := Aside0.mk A50
  clear A50
  replace H := Option.bind_eq_some_iff.mp H
  obtain ⟨t105, A60, H⟩ := H
  replace H : (some t105) = some r := H
  have A6 := Aside0.mk A60
  clear A60
  obtain rfl := Option.some.inj H
  go_enter Try.func13, Try.ntmps13
  go_wp2_with (first | ((with_reducible refine gate_callee (f := 21) rfl ?_); refine goesL_ (some 5) rfl rfl Try.func21 (by kernel_rfl) rfl #[.int .u64 a0, .int .i64 31] rfl (by (try simp only [List.map_toArray, List.map_cons, List.map_nil]); first | done | rfl | (simp only [List.length_drop, List.length_take]; rfl)) ?_; (with_reducible refine (stookref05_against.calls k a0 31 t101 _ A2.out).mono ?_); rintro e w' ⟨rfl, ⟨nd, rfl⟩⟩; refine ⟨_, rfl, ?_⟩) | ((with_reducible refine gate_callee (f := 22) rfl ?_); refine goesL_ (some 6) rfl rfl Try.func22 (by kernel_rfl) rfl #[.int .u64 10723151780598845931] rfl (by (try simp only [List.map_toArray, List.map_cons, List.map_nil]); first | done | rfl | (simp only [List.length_drop, List.length_take]; rfl)) ?_; (with_reducible refine (stookref05_by.calls k 10723151780598845931 t102 _ A3.out).mono ?_); rintro e w' ⟨rfl, ⟨nd, rfl⟩⟩; refine ⟨_, rfl, ?_⟩) | ((with_reducible refine gate_callee (f := 21) rfl ?_); refine goesL_ (some 9) rfl rfl Try.func21 (by kernel_rfl) rfl #[.int .u64 (IntKind.u64.wrap (t101 * t102)), .int .i64 27] rfl (by (try simp only [List.map_toArray, List.map_cons, List.map_nil]); first | done | rfl | (simp only [List.length_drop, List.length_take]; rfl)) ?_; (with_reducible refine (stookref05_against.calls k (IntKind.u64.wrap (t101 * t102)) 27 t103 _ A4.out).mono ?_); rintro e w' ⟨rfl, ⟨nd, rfl⟩⟩; refine ⟨_, rfl, ?_⟩) | ((with_reducible refine gate_callee (f := 22) rfl ?_); refine goesL_ (some 10) rfl rfl Try.func22 (by kernel_rfl) rfl #[.int .u64 13787848793156543929] rfl (by (try simp only [List.map_toArray, List.map_cons, List.map_nil]); first | done | rfl | (simp only [List.length_drop, List.length_take]; rfl)) ?_; (with_reducible refine (stookref05_by.calls k 13787848793156543929 t104 _ A5.out).mono ?_); rintro e w' ⟨rfl, ⟨nd, rfl⟩⟩; refine ⟨_, rfl, ?_⟩) | ((with_reducible refine gate_callee (f := 21) rfl ?_); refine goesL_ (some 13) rfl rfl Try.func21 (by kernel_rfl) rfl #[.int .u64 (IntKind.u64.wrap (t103 * t104)), .int .i64 30] rfl (by (try simp only [List.map_toArray, List.map_cons, List.map_nil]); first | done | rfl | (simp only [List.length_drop, List.length_take]; rfl)) ?_; (with_reducible refine (stookref05_against.calls k (IntKind.u64.wrap (t103 * t104)) 30 t105 _ A6.out).mono ?_); rintro e w' ⟨rfl, ⟨nd, rfl⟩⟩; refine ⟨_, rfl, ?_⟩))
  go_ret
  exact ⟨by first | rfl | (simp; done) | (simp [*]; done), by repeat (first | exact Drawn0.refl _ | apply Drawn0.step)⟩

/-! ### draw_Next: function 15 -/
def draw_Next.f (a0 : Int) : Option (Int × Int) := (draw_Mix.f (IntKind.u64.wrap (a0 + 11400714819323198485))).bind fun t106 => (some (t106, IntKind.u64.wrap (a0 + 11400714819323198485)))
set_option maxHeartbeats 8000000 in
set_option maxRecDepth 100000 in
theorem draw_Next.calls (a0 : Int) (r1 : Int) (r2 : Int) (w : World) (h : draw_Next.f a0 = some (r1, r2)) :
    Calls Try.prog 15 #[.int .u64 a0] w fun e w' => e = .returned (.tuple #[.int .u64 r1, .int .u64 r2]) ∧ Drawn0 w w' := by
  have H : ((draw_Mix.f (IntKind.u64.wrap (a0 + 11400714819323198485))).bind fun t106 => (some (t106, IntKind.u64.wrap (a0 + 11400714819323198485)))) = some (r1, r2) := h
  clear h
  replace H := Option.bind_eq_some_iff.mp H
  obtain ⟨t106, A20, H⟩ := H
  replace H : (some (t106, IntKind.u64.wrap (a0 + 11400714819323198485))) = some (r1, r2) := H
  have A2 := Aside0.mk A20
  clear A20
  simp only [Option.some.injEq, Prod.mk.injEq] at H
  obtain ⟨rfl, rfl⟩ := H
  go_enter Try.func15, Try.ntmps15
  go_wp2_with (first | ((with_reducible refine gate_callee (f := 10) rfl ?_); refine goesL_ (some 6) rfl rfl Try.func10 (by kernel_rfl) rfl #[.int .u64 (IntKind.u64.wrap (a0 + 11400714819323198485))] rfl (by (try simp only [List.map_toArray, List.map_cons, List.map_nil]); first | done | rfl | (simp only [List.length_drop, List.length_take]; rfl)) ?_; (with_reducible refine (draw_Mix.calls (IntKind.u64.wrap (a0 + 11400714819323198485)) t106 _ A2.out).mono ?_); rintro e w' ⟨rfl, ⟨nd, rfl⟩⟩; refine ⟨_, rfl, ?_⟩))
  go_ret2
  exact ⟨by first | rfl | (simp; done) | (simp [*]; done), by repeat (first | exact Drawn0.refl _ | apply Drawn0.step)⟩

/-! ### stooklaw05_works: function 14 -/
def stooklaw05_works.f  : Option (Bool) := (draw_Next.f 0).bind fun bt107 => (if bt107.1 = 16294208416658607535 then (some (bt107.2 == 11400714819323198485)) else (some false))
set_option maxHeartbeats 8000000 in
set_option maxRecDepth 100000 in
theorem stooklaw05_works.calls  (r : Bool) (w : World) (h : stooklaw05_works.f  = some r) :
    Calls Try.prog 14 #[] w fun e w' => e = .returned (.bool r) ∧ Drawn0 w w' := by
  have H : ((draw_Next.f 0).bind fun bt107 => (if bt107.1 = 16294208416658607535 then (some (bt107.2 == 11400714819323198485)) else (some false))) = some r := h
  clear h
  replace H := Option.bind_eq_some_iff.mp H
  obtain ⟨⟨t107, t108⟩, A10, H⟩ := H
  replace H : (if t107 = 16294208416658607535 then (some (t108 == 11400714819323198485)) else (some false)) = some r := H
  have A1 := Aside0.mk A10
  clear A10
  by_cases c2 : t107 = 16294208416658607535
  · rw [if_pos c2] at H
    have c2b0 : (t107 == 16294208416658607535) = true := beq_iff_eq.mpr c2
    have c2b1 : (t107 != 16294208416658607535) = false := bne_eq_false_iff_eq.mpr c2
    clear c2
    obtain rfl := Option.some.inj H
    go_enter Try.func14, Try.ntmps14
    go_wp2_with (first | ((with_reducible refine gate_callee (f := 15) rfl ?_); refine goesL_ (some 4) rfl rfl Try.func15 (by kernel_rfl) rfl #[.int .u64 0] rfl (by (try simp only [List.map_toArray, List.map_cons, List.map_nil]); first | done | rfl | (simp only [List.length_drop, List.length_take]; rfl)) ?_; (with_reducible refine (draw_Next.calls 0 t107 t108 _ A1.out).mono ?_); rintro e w' ⟨rfl, ⟨nd, rfl⟩⟩; refine ⟨_, rfl, ?_⟩))
    go_ret
    exact ⟨by first | rfl | (simp; done) | (simp [*]; done), by repeat (first | exact Drawn0.refl _ | apply Drawn0.step)⟩
  · rw [if_neg c2] at H
    have c2b0 : (t107 == 16294208416658607535) = false := beq_eq_false_iff_ne.mpr c2
    have c2b1 : (t107 != 16294208416658607535) = true := bne_iff_ne.mpr c2
    obtain rfl := Option.some.inj H
    go_enter Try.func14, Try.ntmps14
    go_wp2_with (first | ((with_reducible refine gate_callee (f := 15) rfl ?_); refine goesL_ (some 4) rfl rfl Try.func15 (by kernel_rfl) rfl #[.int .u64 0] rfl (by (try simp only [List.map_toArray, List.map_cons, List.map_nil]); first | done | rfl | (simp only [List.length_drop, List.length_take]; rfl)) ?_; (with_reducible refine (draw_Next.calls 0 t107 t108 _ A1.out).mono ?_); rintro e w' ⟨rfl, ⟨nd, rfl⟩⟩; refine ⟨_, rfl, ?_⟩))
    go_ret
    exact ⟨by first | rfl | (simp; done) | (simp [*]; done), by repeat (first | exact Drawn0.refl _ | apply Drawn0.step)⟩

/-! ### stooklaw05_DrawMixes: function 3 -/
def stooklaw05_DrawMixes.f (k : Nat) (a0 : Int) : Option (Bool) := (draw_Mix.f a0).bind fun t109 => ((stookref05_Mix.f a0).bind fun t110 => (if t109 = t110 then ((draw_Unmix.f a0).bind fun t111 => ((stookref05_Unmix.f k a0).bind fun t112 => (if t111 = t112 then ((stooklaw05_works.f).bind fun t113 => (some t113)) else (some false)))) else (some false)))
theorem stooklaw05_DrawMixes.mono : ∀ a0 k, LeO (stooklaw05_DrawMixes.f k a0) (stooklaw05_DrawMixes.f (k + 1) a0) := by
  intro a0 k
  unfold stooklaw05_DrawMixes.f
  repeat' first
      | (with_reducible exact stookref05_Unmix.mono _ _)
      | (with_reducible exact LeO.refl _)
      | (with_reducible exact LeO.none _)
      | (with_reducible refine LeO.ite ?_ ?_)
      | (with_reducible refine LeO.bind ?_ (fun _ => ?_))
      | exact stookref05_Unmix.mono _ _
      | exact LeO.none _
      | refine LeO.ite ?_ ?_
      | refine LeO.bind ?_ (fun _ => ?_)
set_option maxHeartbeats 8000000 in
set_option maxRecDepth 100000 in
theorem stooklaw05_DrawMixes.calls (k : Nat) (a0 : Int) (r : Bool) (w : World) (h : stooklaw05_DrawMixes.f k a0 = some r) :
    Calls Try.prog 3 #[.int .u64 a0] w fun e w' => e = .returned (.bool r) ∧ Drawn0 w w' := by
  have H : ((draw_Mix.f a0).bind fun t109 => ((stookref05_Mix.f a0).bind fun t110 => (if t109 = t110 then ((draw_Unmix.f a0).bind fun t111 => ((stookref05_Unmix.f k a0).bind fun t112 => (if t111 = t112 then ((stooklaw05_works.f).bind fun t113 => (some t113)) else (some false)))) else (some false)))) = some r := h
  clear h
  replace H := Option.bind_eq_some_iff.mp H
  obtain ⟨t109, A20, H⟩ := H
  replace H : ((stookref05_Mix.f a0).bind fun t110 => (if t109 = t110 then ((draw_Unmix.f a0).bind fun t111 => ((stookref05_Unmix.f k a0).bind fun t112 => (if t111 = t112 then ((stooklaw05_works.f).bind fun t113 => (some t113)) else (some false)))) else (some false))) = some r := H
  have A2 := Aside0.mk A20
  clear A20
  replace H := Option.bind_eq_some_iff.mp H
  obtain ⟨t110, A30, H⟩ := H
  replace H : (if t109 = t110 then ((draw_Unmix.f a0).bind fun t111 => ((stookref05_Unmix.f k a0).bind fun t112 => (if t111 = t112 then ((stooklaw05_works.f).bind fun t113 => (some t113)) else (some false)))) else (some false)) = some r := H
  have A3 := Aside0.mk A30
  clear A30
  by_cases c4 : t109 = t110
  · rw [if_pos c4] at H
    have c4b0 : (t109 == t110) = true := beq_iff_eq.mpr c4
    have c4b1 : (t109 != t110) = false := bne_eq_false_iff_eq.mpr c4
    clear c4
    replace H := Option.bind_eq_some_iff.mp H
    obtain ⟨t111, A50, H⟩ := H
    replace H : ((stookref05_Unmix.f k a0).bind fun t112 => (if t111 = t112 then ((stooklaw05_works.f).bind fun t113 => (some t113)) else (some false))) = some r := H
    have A5 := Aside0.mk A50
    clear A50
    replace H := Option.bind_eq_some_iff.mp H
    obtain ⟨t112, A60, H⟩ := H
    replace H : (if t111 = t112 then ((stooklaw05_works.f).bind fun t113 => (some t113)) else (some false)) = some r := H
    have A6 := Aside0.mk A60
    clear A60
    by_cases c7 : t111 = t112
    · rw [if_pos c7] at H
      have c7b0 : (t111 == t112) = true := beq_iff_eq.mpr c7
      have c7b1 : (t111 != t112) = false := bne_eq_false_iff_eq.mpr c7
      clear c7
      replace H := Option.bind_eq_some_iff.mp H
      obtain ⟨t113, A80, H⟩ := H
      replace H : (some t113) = some r := H
      have A8 := Aside0.mk A80
      clear A80
      obtain rfl := Option.some.inj H
      go_enter Try.func3, Try.ntmps3
      go_wp2_with (first | ((with_reducible refine gate_callee (f := 10) rfl ?_); refine goesL_ (some 4) rfl rfl Try.func10 (by kernel_rfl) rfl #[.int .u64 a0] rfl (by (try simp only [List.map_toArray, List.map_cons, List.map_nil]); first | done | rfl | (simp only [List.length_drop, List.length_take]; rfl)) ?_; (with_reducible refine (draw_Mix.calls a0 t109 _ A2.out).mono ?_); rintro e w' ⟨rfl, ⟨nd, rfl⟩⟩; refine ⟨_, rfl, ?_⟩) | ((with_reducible refine gate_callee (f := 11) rfl ?_); refine goesL_ (some 6) rfl rfl Try.func11 (by kernel_rfl) rfl #[.int .u64 a0] rfl (by (try simp only [List.map_toArray, List.map_cons, List.map_nil]); first | done | rfl | (simp only [List.length_drop, List.length_take]; rfl)) ?_; (with_reducible refine (stookref05_Mix.calls a0 t110 _ A3.out).mono ?_); rintro e w' ⟨rfl, ⟨nd, rfl⟩⟩; refine ⟨_, rfl, ?_⟩) | (go_at_call 12; (with_reducible refine (draw_Unmix.calls a0 t111 _ A5.out).mono ?_); rintro e w' ⟨rfl, ⟨nd, rfl⟩⟩) | (go_at_call 13; (with_reducible refine (stookref05_Unmix.calls k a0 t112 _ A6.out).mono ?_); rintro e w' ⟨rfl, ⟨nd, rfl⟩⟩) | (go_at_call 14; (with_reducible refine (stooklaw05_works.calls  t113 _ A8.out).mono ?_); rintro e w' ⟨rfl, ⟨nd, rfl⟩⟩))
      go_ret
      exact ⟨by first | rfl | (simp; done) | (simp [*]; done), by repeat (first | exact Drawn0.refl _ | apply Drawn0.step)⟩
    · rw [if_neg c7] at H
      have c7b0 : (t111 == t112) = false := beq_eq_false_iff_ne.mpr c7
      have c7b1 : (t111 != t112) = true := bne_iff_ne.mpr c7
      obtain rfl := Option.some.inj H
      go_enter Try.func3, Try.ntmps3
      go_wp2_with (first | ((with_reducible refine gate_callee (f := 10) rfl ?_); refine goesL_ (some 4) rfl rfl Try.func10 (by kernel_rfl) rfl #[.int .u64 a0] rfl (by (try simp only [List.map_toArray, List.map_cons, List.map_nil]); first | done | rfl | (simp only [List.length_drop, List.length_take]; rfl)) ?_; (with_reducible refine (draw_Mix.calls a0 t109 _ A2.out).mono ?_); rintro e w' ⟨rfl, ⟨nd, rfl⟩⟩; refine ⟨_, rfl, ?_⟩) | ((with_reducible refine gate_callee (f := 11) rfl ?_); refine goesL_ (some 6) rfl rfl Try.func11 (by kernel_rfl) rfl #[.int .u64 a0] rfl (by (try simp only [List.map_toArray, List.map_cons, List.map_nil]); first | done | rfl | (simp only [List.length_drop, List.length_take]; rfl)) ?_; (with_reducible refine (stookref05_Mix.calls a0 t110 _ A3.out).mono ?_); rintro e w' ⟨rfl, ⟨nd, rfl⟩⟩; refine ⟨_, rfl, ?_⟩) | (go_at_call 12; (with_reducible refine (draw_Unmix.calls a0 t111 _ A5.out).mono ?_); rintro e w' ⟨rfl, ⟨nd, rfl⟩⟩) | (go_at_call 13; (with_reducible refine (stookref05_Unmix.calls k a0 t112 _ A6.out).mono ?_); rintro e w' ⟨rfl, ⟨nd, rfl⟩⟩))
      go_ret
      exact ⟨by first | rfl | (simp; done) | (simp [*]; done), by repeat (first | exact Drawn0.refl _ | apply Drawn0.step)⟩
  · rw [if_neg c4] at H
    have c4b0 : (t109 == t110) = false := beq_eq_false_iff_ne.mpr c4
    have c4b1 : (t109 != t110) = true := bne_iff_ne.mpr c4
    obtain rfl := Option.some.inj H
    go_enter Try.func3, Try.ntmps3
    go_wp2_with (first | ((with_reducible refine gate_callee (f := 10) rfl ?_); refine goesL_ (some 4) rfl rfl Try.func10 (by kernel_rfl) rfl #[.int .u64 a0] rfl (by (try simp only [List.map_toArray, List.map_cons, List.map_nil]); first | done | rfl | (simp only [List.length_drop, List.length_take]; rfl)) ?_; (with_reducible refine (draw_Mix.calls a0 t109 _ A2.out).mono ?_); rintro e w' ⟨rfl, ⟨nd, rfl⟩⟩; refine ⟨_, rfl, ?_⟩) | ((with_reducible refine gate_callee (f := 11) rfl ?_); refine goesL_ (some 6) rfl rfl Try.func11 (by kernel_rfl) rfl #[.int .u64 a0] rfl (by (try simp only [List.map_toArray, List.map_cons, List.map_nil]); first | done | rfl | (simp only [List.length_drop, List.length_take]; rfl)) ?_; (with_reducible refine (stookref05_Mix.calls a0 t110 _ A3.out).mono ?_); rintro e w' ⟨rfl, ⟨nd, rfl⟩⟩; refine ⟨_, rfl, ?_⟩))
    go_ret
    exact ⟨by first | rfl | (simp; done) | (simp [*]; done), by repeat (first | exact Drawn0.refl _ | apply Drawn0.step)⟩

/-- THE ONE PURE STATEMENT of stooklaw05_DrawMixes: yours. -/
def stooklaw05_DrawMixes.Pure : Prop := ∀ (a0 : Int), (Lit.int .u64 a0).wf = true → ∃ k, stooklaw05_DrawMixes.f k a0 = some true
theorem stooklaw05_DrawMixes.walk (P : stooklaw05_DrawMixes.Pure) (a0 : Int) (w : World) (w0 : (Lit.int .u64 a0).wf = true) :
    Calls Try.prog 3 #[.int .u64 a0] w fun e w' => e = .returned (.bool true) ∧ Below w.heap.size w w' := by
  obtain ⟨k, h⟩ := P a0 w0
  refine (stooklaw05_DrawMixes.calls k a0 true w h).mono ?_
  rintro e w' ⟨rfl, hd⟩
  exact ⟨rfl, hd.below⟩

end Go.Proofs.Ytckpangkdlpmcaa.PDrawMixes
