-- PRINTED BY print.sh 35421559b90ae4d0a3588c463048766b98c2df88dd9212a6774a882060cdf62d: not written by this session
import Derived.Test.YtckpangkdlpmcaaPDrawStatesx0
namespace Go.Proofs.Ytckpangkdlpmcaa.PDrawStates
open Go.RowKit Go.Proofs.YtckpangkdlpmcaaW.PrintWords Go.Proofs.YtckpangkdlpmcaaW.PrintLast Go.Proofs.YtckpangkdlpmcaaW.PrintMore
attribute [local go_sem] max2_int min2_int max_two min_two max_three min_three max_four min_four   -- for this text's walks alone
set_option linter.unusedVariables false
set_option linter.unusedSimpArgs false

/-! ### draw_Unmix: function 12 -/
def draw_Unmix.f (a0 : Int) : Option (Int) := some (Go.bits .xor .u64 (Go.bits .xor .u64 (IntKind.u64.wrap ((Go.bits .xor .u64 (Go.bits .xor .u64 (IntKind.u64.wrap ((Go.bits .xor .u64 (Go.bits .xor .u64 a0 (a0 / 2147483648)) (a0 / 4611686018427387904)) * 3573116690164977347)) ((IntKind.u64.wrap ((Go.bits .xor .u64 (Go.bits .xor .u64 a0 (a0 / 2147483648)) (a0 / 4611686018427387904)) * 3573116690164977347)) / 134217728)) ((IntKind.u64.wrap ((Go.bits .xor .u64 (Go.bits .xor .u64 a0 (a0 / 2147483648)) (a0 / 4611686018427387904)) * 3573116690164977347)) / 18014398509481984)) * 10871156337175269513)) ((IntKind.u64.wrap ((Go.bits .xor .u64 (Go.bits .xor .u64 (IntKind.u64.wrap ((Go.bits .xor .u64 (Go.bits .xor .u64 a0 (a0 / 2147483648)) (a0 / 4611686018427387904)) * 3573116690164977347)) ((IntKind.u64.wrap ((Go.bits .xor .u64 (Go.bits .xor .u64 a0 (a0 / 2147483648)) (a0 / 4611686018427387904)) * 3573116690164977347)) / 134217728)) ((IntKind.u64.wrap ((Go.bits .xor .u64 (Go.bits .xor .u64 a0 (a0 / 2147483648)) (a0 / 4611686018427387904)) * 3573116690164977347)) / 18014398509481984)) * 10871156337175269513)) / 1073741824)) ((IntKind.u64.wrap ((Go.bits .xor .u64 (Go.bits .xor .u64 (IntKind.u64.wrap ((Go.bits .xor .u64 (Go.bits .xor .u64 a0 (a0 / 2147483648)) (a0 / 4611686018427387904)) * 3573116690164977347)) ((IntKind.u64.wrap ((Go.bits .xor .u64 (Go.bits .xor .u64 a0 (a0 / 2147483648)) (a0 / 4611686018427387904)) * 3573116690164977347)) / 134217728)) ((IntKind.u64.wrap ((Go.bits .xor .u64 (Go.bits .xor .u64 a0 (a0 / 2147483648)) (a0 / 4611686018427387904)) * 3573116690164977347)) / 18014398509481984)) * 10871156337175269513)) / 1152921504606846976))
set_option maxHeartbeats 8000000 in
set_option maxRecDepth 100000 in
theorem draw_Unmix.calls (a0 : Int) (r : Int) (w : World) (h : draw_Unmix.f a0 = some r) :
    Calls Try.prog 12 #[.int .u64 a0] w fun e w' => e = .returned (.int .u64 r) ∧ Drawn0 w w' := by
  have H : (some (Go.bits .xor .u64 (Go.bits .xor .u64 (IntKind.u64.wrap ((Go.bits .xor .u64 (Go.bits .xor .u64 (IntKind.u64.wrap ((Go.bits .xor .u64 (Go.bits .xor .u64 a0 (a0 / 2147483648)) (a0 / 4611686018427387904)) * 3573116690164977347)) ((IntKind.u64.wrap ((Go.bits .xor .u64 (Go.bits .xor .u64 a0 (a0 / 2147483648)) (a0 / 4611686018427387904)) * 3573116690164977347)) / 134217728)) ((IntKind.u64.wrap ((Go.bits .xor .u64 (Go.bits .xor .u64 a0 (a0 / 2147483648)) (a0 / 4611686018427387904)) * 3573116690164977347)) / 18014398509481984)) * 10871156337175269513)) ((IntKind.u64.wrap ((Go.bits .xor .u64 (Go.bits .xor .u64 (IntKind.u64.wrap ((Go.bits .xor .u64 (Go.bits .xor .u64 a0 (a0 / 2147483648)) (a0 / 4611686018427387904)) * 3573116690164977347)) ((IntKind.u64.wrap ((Go.bits .xor .u64 (Go.bits .xor .u64 a0 (a0 / 2147483648)) (a0 / 4611686018427387904)) * 3573116690164977347)) / 134217728)) ((IntKind.u64.wrap ((Go.bits .xor .u64 (Go.bits .xor .u64 a0 (a0 / 2147483648)) (a0 / 4611686018427387904)) * 3573116690164977347)) / 18014398509481984)) * 10871156337175269513)) / 1073741824)) ((IntKind.u64.wrap ((Go.bits .xor .u64 (Go.bits .xor .u64 (IntKind.u64.wrap ((Go.bits .xor .u64 (Go.bits .xor .u64 a0 (a0 / 2147483648)) (a0 / 4611686018427387904)) * 3573116690164977347)) ((IntKind.u64.wrap ((Go.bits .xor .u64 (Go.bits .xor .u64 a0 (a0 / 2147483648)) (a0 / 4611686018427387904)) * 3573116690164977347)) / 134217728)) ((IntKind.u64.wrap ((Go.bits .xor .u64 (Go.bits .xor .u64 a0 (a0 / 2147483648)) (a0 / 4611686018427387904)) * 3573116690164977347)) / 18014398509481984)) * 10871156337175269513)) / 1152921504606846976))) = some r := h
  clear h
  obtain rfl := Option.some.inj H
  go_enter Try.func12, Try.ntmps12
  go_wp2
  go_ret
  exact ⟨by first | rfl | (simp; done) | (simp [*]; done), by repeat (first | exact Drawn0.refl _ | apply Drawn0.step)⟩

/-! ### draw_Mix: function 10 -/
def draw_Mix.f (a0 : Int) : Option (Int) := some (Go.bits .xor .u64 (IntKind.u64.wrap ((Go.bits .xor .u64 (IntKind.u64.wrap ((Go.bits .xor .u64 a0 (a0 / 1073741824)) * 13787848793156543929)) ((IntKind.u64.wrap ((Go.bits .xor .u64 a0 (a0 / 1073741824)) * 13787848793156543929)) / 134217728)) * 10723151780598845931)) ((IntKind.u64.wrap ((Go.bits .xor .u64 (IntKind.u64.wrap ((Go.bits .xor .u64 a0 (a0 / 1073741824)) * 13787848793156543929)) ((IntKind.u64.wrap ((Go.bits .xor .u64 a0 (a0 / 1073741824)) * 13787848793156543929)) / 134217728)) * 10723151780598845931)) / 2147483648))
set_option maxHeartbeats 8000000 in
set_option maxRecDepth 100000 in
theorem draw_Mix.calls (a0 : Int) (r : Int) (w : World) (h : draw_Mix.f a0 = some r) :
    Calls Try.prog 10 #[.int .u64 a0] w fun e w' => e = .returned (.int .u64 r) ∧ Drawn0 w w' := by
  have H : (some (Go.bits .xor .u64 (IntKind.u64.wrap ((Go.bits .xor .u64 (IntKind.u64.wrap ((Go.bits .xor .u64 a0 (a0 / 1073741824)) * 13787848793156543929)) ((IntKind.u64.wrap ((Go.bits .xor .u64 a0 (a0 / 1073741824)) * 13787848793156543929)) / 134217728)) * 10723151780598845931)) ((IntKind.u64.wrap ((Go.bits .xor .u64 (IntKind.u64.wrap ((Go.bits .xor .u64 a0 (a0 / 1073741824)) * 13787848793156543929)) ((IntKind.u64.wrap ((Go.bits .xor .u64 a0 (a0 / 1073741824)) * 13787848793156543929)) / 134217728)) * 10723151780598845931)) / 2147483648))) = some r := h
  clear h
  obtain rfl := Option.some.inj H
  go_enter Try.func10, Try.ntmps10
  go_wp2
  go_ret
  exact ⟨by first | rfl | (simp; done) | (simp [*]; done), by repeat (first | exact Drawn0.refl _ | apply Drawn0.step)⟩

/-! ### draw_Next: function 15 -/
def draw_Next.f (a0 : Int) : Option (Int × Int) := (draw_Mix.f (IntKind.u64.wrap (a0 + 11400714819323198485))).bind fun t101 => (some (t101, IntKind.u64.wrap (a0 + 11400714819323198485)))
set_option maxHeartbeats 8000000 in
set_option maxRecDepth 100000 in
theorem draw_Next.calls (a0 : Int) (r1 : Int) (r2 : Int) (w : World) (h : draw_Next.f a0 = some (r1, r2)) :
    Calls Try.prog 15 #[.int .u64 a0] w fun e w' => e = .returned (.tuple #[.int .u64 r1, .int .u64 r2]) ∧ Drawn0 w w' := by
  have H : ((draw_Mix.f (IntKind.u64.wrap (a0 + 11400714819323198485))).bind fun t101 => (some (t101, IntKind.u64.wrap (a0 + 11400714819323198485)))) = some (r1, r2) := h
  clear h
  replace H := Option.bind_eq_some_iff.mp H
  obtain ⟨t101, A20, H⟩ := H
  replace H : (some (t101, IntKind.u64.wrap (a0 + 11400714819323198485))) = some (r1, r2) := H
  have A2 := Aside0.mk A20
  clear A20
  simp only [Option.some.injEq, Prod.mk.injEq] at H
  obtain ⟨rfl, rfl⟩ := H
  go_enter Try.func15, Try.ntmps15
  go_wp2_with (first | ((with_reducible refine gate_callee (f := 10) rfl ?_); refine goesL_ (some 6) rfl rfl Try.func10 (by kernel_rfl) rfl #[.int .u64 (IntKind.u64.wrap (a0 + 11400714819323198485))] rfl (by (try simp only [List.map_toArray, List.map_cons, List.map_nil]); first | done | rfl | (simp only [List.length_drop, List.length_take]; rfl)) ?_; (with_reducible refine (draw_Mix.calls (IntKind.u64.wrap (a0 + 11400714819323198485)) t101 _ A2.out).mono ?_); rintro e w' ⟨rfl, ⟨nd, rfl⟩⟩; refine ⟨_, rfl, ?_⟩))
  go_ret2
  exact ⟨by first | rfl | (simp; done) | (simp [*]; done), by repeat (first | exact Drawn0.refl _ | apply Drawn0.step)⟩

/-! ### stooklaw05_works: function 14 -/
def stooklaw05_works.f  : Option (Bool) := (draw_Next.f 0).bind fun bt102 => (if bt102.1 = 16294208416658607535 then (some (bt102.2 == 11400714819323198485)) else (some false))
set_option maxHeartbeats 8000000 in
set_option maxRecDepth 100000 in
theorem stooklaw05_works.calls  (r : Bool) (w : World) (h : stooklaw05_works.f  = some r) :
    Calls Try.prog 14 #[] w fun e w' => e = .returned (.bool r) ∧ Drawn0 w w' := by
  have H : ((draw_Next.f 0).bind fun bt102 => (if bt102.1 = 16294208416658607535 then (some (bt102.2 == 11400714819323198485)) else (some false))) = some r := h
  clear h
  replace H := Option.bind_eq_some_iff.mp H
  obtain ⟨⟨t102, t103⟩, A10, H⟩ := H
  replace H : (if t102 = 16294208416658607535 then (some (t103 == 11400714819323198485)) else (some false)) = some r := H
  have A1 := Aside0.mk A10
  clear A10
  by_cases c2 : t102 = 16294208416658607535
  · rw [if_pos c2] at H
    have c2b0 : (t102 == 16294208416658607535) = true := beq_iff_eq.mpr c2
    have c2b1 : (t102 != 16294208416658607535) = false := bne_eq_false_iff_eq.mpr c2
    clear c2
    obtain rfl := Option.some.inj H
    go_enter Try.func14, Try.ntmps14
    go_wp2_with (first | ((with_reducible refine gate_callee (f := 15) rfl ?_); refine goesL_ (some 4) rfl rfl Try.func15 (by kernel_rfl) rfl #[.int .u64 0] rfl (by (try simp only [List.map_toArray, List.map_cons, List.map_nil]); first | done | rfl | (simp only [List.length_drop, List.length_take]; rfl)) ?_; (with_reducible refine (draw_Next.calls 0 t102 t103 _ A1.out).mono ?_); rintro e w' ⟨rfl, ⟨nd, rfl⟩⟩; refine ⟨_, rfl, ?_⟩))
    go_ret
    exact ⟨by first | rfl | (simp; done) | (simp [*]; done), by repeat (first | exact Drawn0.refl _ | apply Drawn0.step)⟩
  · rw [if_neg c2] at H
    have c2b0 : (t102 == 16294208416658607535) = false := beq_eq_false_iff_ne.mpr c2
    have c2b1 : (t102 != 16294208416658607535) = true := bne_iff_ne.mpr c2
    obtain rfl := Option.some.inj H
    go_enter Try.func14, Try.ntmps14
    go_wp2_with (first | ((with_reducible refine gate_callee (f := 15) rfl ?_); refine goesL_ (some 4) rfl rfl Try.func15 (by kernel_rfl) rfl #[.int .u64 0] rfl (by (try simp only [List.map_toArray, List.map_cons, List.map_nil]); first | done | rfl | (simp only [List.length_drop, List.length_take]; rfl)) ?_; (with_reducible refine (draw_Next.calls 0 t102 t103 _ A1.out).mono ?_); rintro e w' ⟨rfl, ⟨nd, rfl⟩⟩; refine ⟨_, rfl, ?_⟩))
    go_ret
    exact ⟨by first | rfl | (simp; done) | (simp [*]; done), by repeat (first | exact Drawn0.refl _ | apply Drawn0.step)⟩

/-! ### stooklaw05_DrawStates: function 5 -/
def stooklaw05_DrawStates.f (a0 : Int) (a1 : Int) : Option (Bool) := (draw_Next.f a0).bind fun bt104 => ((draw_Next.f a1).bind fun bt106 => (if ((bt104.1 == bt106.1) == (a0 == a1)) = true then (if ((bt104.2 == bt106.2) == (a0 == a1)) = true then ((draw_Unmix.f bt104.1).bind fun t108 => (if t108 = bt104.2 then ((stooklaw05_works.f).bind fun t109 => (some t109)) else (some false))) else (some false)) else (some false)))
set_option maxHeartbeats 8000000 in
set_option maxRecDepth 100000 in
theorem stooklaw05_DrawStates.calls (a0 : Int) (a1 : Int) (r : Bool) (w : World) (h : stooklaw05_DrawStates.f a0 a1 = some r) :
    Calls Try.prog 5 #[.int .u64 a0, .int .u64 a1] w fun e w' => e = .returned (.bool r) ∧ Drawn0 w w' := by
  have H : ((draw_Next.f a0).bind fun bt104 => ((draw_Next.f a1).bind fun bt106 => (if ((bt104.1 == bt106.1) == (a0 == a1)) = true then (if ((bt104.2 == bt106.2) == (a0 == a1)) = true then ((draw_Unmix.f bt104.1).bind fun t108 => (if t108 = bt104.2 then ((stooklaw05_works.f).bind fun t109 => (some t109)) else (some false))) else (some false)) else (some false)))) = some r := h
  clear h
  replace H := Option.bind_eq_some_iff.mp H
  obtain ⟨⟨t104, t105⟩, A30, H⟩ := H
  replace H : ((draw_Next.f a1).bind fun bt106 => (if ((t104 == bt106.1) == (a0 == a1)) = true then (if ((t105 == bt106.2) == (a0 == a1)) = true then ((draw_Unmix.f t104).bind fun t108 => (if t108 = t105 then ((stooklaw05_works.f).bind fun t109 => (some t109)) else (some false))) else (some false)) else (some false))) = some r := H
  have A3 := Aside0.mk A30
  clear A30
  replace H := Option.bind_eq_some_iff.mp H
  obtain ⟨⟨t106, t107⟩, A40, H⟩ := H
  replace H : (if ((t104 == t106) == (a0 == a1)) = true then (if ((t105 == t107) == (a0 == a1)) = true then ((draw_Unmix.f t104).bind fun t108 => (if t108 = t105 then ((stooklaw05_works.f).bind fun t109 => (some t109)) else (some false))) else (some false)) else (some false)) = some r := H
  have A4 := Aside0.mk A40
  clear A40
  by_cases c5 : ((t104 == t106) == (a0 == a1)) = true
  · rw [if_pos c5] at H
    have c5b0 : ((t104 == t106) == (a0 == a1)) = true := c5
    (try (have c5b1 : decide ((t104 == t106) = (a0 == a1)) = true := by simpa using c5))
    (try (have c5b2 : ((t104 == t106) == (a0 == a1)) = true := by simpa using c5))
    clear c5
    by_cases c6 : ((t105 == t107) == (a0 == a1)) = true
    · rw [if_pos c6] at H
      have c6b0 : ((t105 == t107) == (a0 == a1)) = true := c6
      (try (have c6b1 : decide ((t105 == t107) = (a0 == a1)) = true := by simpa using c6))
      (try (have c6b2 : ((t105 == t107) == (a0 == a1)) = true := by simpa using c6))
      clear c6
      replace H := Option.bind_eq_some_iff.mp H
      obtain ⟨t108, A70, H⟩ := H
      replace H : (if t108 = t105 then ((stooklaw05_works.f).bind fun t109 => (some t109)) else (some false)) = some r := H
      have A7 := Aside0.mk A70
      clear A70
      by_cases c8 : t108 = t105
      · rw [if_pos c8] at H
        have c8b0 : (t108 == t105) = true := beq_iff_eq.mpr c8
        have c8b1 : (t108 != t105) = false := bne_eq_false_iff_eq.mpr c8
        clear c8
        replace H := Option.bind_eq_some_iff.mp H
        obtain ⟨t109, A90, H⟩ := H
        replace H : (some t109) = some r := H
        have A9 := Aside0.mk A90
        clear A90
        obtain rfl := Option.some.inj H
        go_enter Try.func5, Try.ntmps5
        go_wp2_with (first | ((with_reducible refine gate_callee (f := 15) rfl ?_); refine goesL_ (some 11) rfl rfl Try.func15 (by kernel_rfl) rfl #[.int .u64 a0] rfl (by (try simp only [List.map_toArray, List.map_cons, List.map_nil]); first | done | rfl | (simp only [List.length_drop, List.length_take]; rfl)) ?_; (with_reducible refine (draw_Next.calls a0 t104 t105 _ A3.out).mono ?_); rintro e w' ⟨rfl, ⟨nd, rfl⟩⟩; refine ⟨_, rfl, ?_⟩) | ((with_reducible refine gate_callee (f := 15) rfl ?_); refine goesL_ (some 16) rfl rfl Try.func15 (by kernel_rfl) rfl #[.int .u64 a1] rfl (by (try simp only [List.map_toArray, List.map_cons, List.map_nil]); first | done | rfl | (simp only [List.length_drop, List.length_take]; rfl)) ?_; (with_reducible refine (draw_Next.calls a1 t106 t107 _ A4.out).mono ?_); rintro e w' ⟨rfl, ⟨nd, rfl⟩⟩; refine ⟨_, rfl, ?_⟩) | (go_at_call 12; (with_reducible refine (draw_Unmix.calls t104 t108 _ A7.out).mono ?_); rintro e w' ⟨rfl, ⟨nd, rfl⟩⟩) | (go_at_call 14; (with_reducible refine (stooklaw05_works.calls  t109 _ A9.out).mono ?_); rintro e w' ⟨rfl, ⟨nd, rfl⟩⟩))
        go_ret
        exact ⟨by first | rfl | (simp; done) | (simp [*]; done), by repeat (first | exact Drawn0.refl _ | apply Drawn0.step)⟩
      · rw [if_neg c8] at H
        have c8b0 : (t108 == t105) = false := beq_eq_false_iff_ne.mpr c8
        have c8b1 : (t108 != t105) = true := bne_iff_ne.mpr c8
        obtain rfl := Option.some.inj H
        go_enter Try.func5, Try.ntmps5
        go_wp2_with (first | ((with_reducible refine gate_callee (f := 15) rfl ?_); refine goesL_ (some 11) rfl rfl Try.func15 (by kernel_rfl) rfl #[.int .u64 a0] rfl (by (try simp only [List.map_toArray, List.map_cons, List.map_nil]); first | done | rfl | (simp only [List.length_drop, List.length_take]; rfl)) ?_; (with_reducible refine (draw_Next.calls a0 t104 t105 _ A3.out).mono ?_); rintro e w' ⟨rfl, ⟨nd, rfl⟩⟩; refine ⟨_, rfl, ?_⟩) | ((with_reducible refine gate_callee (f := 15) rfl ?_); refine goesL_ (some 16) rfl rfl Try.func15 (by kernel_rfl) rfl #[.int .u64 a1] rfl (by (try simp only [List.map_toArray, List.map_cons, List.map_nil]); first | done | rfl | (simp only [List.length_drop, List.length_take]; rfl)) ?_; (with_reducible refine (draw_Next.calls a1 t106 t107 _ A4.out).mono ?_); rintro e w' ⟨rfl, ⟨nd, rfl⟩⟩; refine ⟨_, rfl, ?_⟩) | (go_at_call 12; (with_reducible refine (draw_Unmix.calls t104 t108 _ A7.out).mono ?_); rintro e w' ⟨rfl, ⟨nd, rfl⟩⟩))
        go_ret
        exact ⟨by first | rfl | (simp; done) | (simp [*]; done), by repeat (first | exact Drawn0.refl _ | apply Drawn0.step)⟩
    · rw [if_neg c6] at H
      have c6b0 : ((t105 == t107) == (a0 == a1)) = false := by simpa using c6
      (try (have c6b1 : decide ((t105 == t107) = (a0 == a1)) = false := by simpa using c6))
      (try (have c6b2 : ((t105 == t107) == (a0 == a1)) = false := by simpa using c6))
      (try (have c6b3 : ¬ ((t105 == t107) = (a0 == a1)) := by simpa using c6))
      clear c6
      obtain rfl := Option.some.inj H
      go_enter Try.func5, Try.ntmps5
      go_wp2_with (first | ((with_reducible refine gate_callee (f := 15) rfl ?_); refine goesL_ (some 11) rfl rfl Try.func15 (by kernel_rfl) rfl #[.int .u64 a0] rfl (by (try simp only [List.map_toArray, List.map_cons, List.map_nil]); first | done | rfl | (simp only [List.length_drop, List.length_take]; rfl)) ?_; (with_reducible refine (draw_Next.calls a0 t104 t105 _ A3.out).mono ?_); rintro e w' ⟨rfl, ⟨nd, rfl⟩⟩; refine ⟨_, rfl, ?_⟩) | ((with_reducible refine gate_callee (f := 15) rfl ?_); refine goesL_ (some 16) rfl rfl Try.func15 (by kernel_rfl) rfl #[.int .u64 a1] rfl (by (try simp only [List.map_toArray, List.map_cons, List.map_nil]); first | done | rfl | (simp only [List.length_drop, List.length_take]; rfl)) ?_; (with_reducible refine (draw_Next.calls a1 t106 t107 _ A4.out).mono ?_); rintro e w' ⟨rfl, ⟨nd, rfl⟩⟩; refine ⟨_, rfl, ?_⟩))
      go_ret
      exact ⟨by first | rfl | (simp; done) | (simp [*]; done), by repeat (first | exact Drawn0.refl _ | apply Drawn0.step)⟩
  · rw [if_neg c5] at H
    have c5b0 : ((t104 == t106) == (a0 == a1)) = false := by simpa using c5
    (try (have c5b1 : decide ((t104 == t106) = (a0 == a1)) = false := by simpa using c5))
    (try (have c5b2 : ((t104 == t106) == (a0 == a1)) = false := by simpa using c5))
    (try (have c5b3 : ¬ ((t104 == t106) = (a0 == a1)) := by simpa using c5))
    clear c5
    obtain rfl := Option.some.inj H
    go_enter Try.func5, Try.ntmps5
    go_wp2_with (first | ((with_reducible refine gate_callee (f := 15) rfl ?_); refine goesL_ (some 11) rfl rfl Try.func15 (by kernel_rfl) rfl #[.int .u64 a0] rfl (by (try simp only [List.map_toArray, List.map_cons, List.map_nil]); first | done | rfl | (simp only [List.length_drop, List.length_take]; rfl)) ?_; (with_reducible refine (draw_Next.calls a0 t104 t105 _ A3.out).mono ?_); rintro e w' ⟨rfl, ⟨nd, rfl⟩⟩; refine ⟨_, rfl, ?_⟩) | ((with_reducible refine gate_callee (f := 15) rfl ?_); refine goesL_ (some 16) rfl rfl Try.func15 (by kernel_rfl) rfl #[.int .u64 a1] rfl (by (try simp only [List.map_toArray, List.map_cons, List.map_nil]); first | done | rfl | (simp only [List.length_drop, List.length_take]; rfl)) ?_; (with_reducible refine (draw_Next.calls a1 t106 t107 _ A4.out).mono ?_); rintro e w' ⟨rfl, ⟨nd, rfl⟩⟩; refine ⟨_, rfl, ?_⟩))
    go_ret
    exact ⟨by first | rfl | (simp; done) | (simp [*]; done), by repeat (first | exact Drawn0.refl _ | apply Drawn0.step)⟩

/-- THE ONE PURE STATEMENT of stooklaw05_DrawStates: yours. -/
def stooklaw05_DrawStates.Pure : Prop := ∀ (a0 : Int) (a1 : Int), (Lit.int .u64 a0).wf = true → (Lit.int .u64 a1).wf = true → stooklaw05_DrawStates.f a0 a1 = some true
theorem stooklaw05_DrawStates.walk (P : stooklaw05_DrawStates.Pure) (a0 : Int) (a1 : Int) (w : World) (w0 : (Lit.int .u64 a0).wf = true) (w1 : (Lit.int .u64 a1).wf = true) :
    Calls Try.prog 5 #[.int .u64 a0, .int .u64 a1] w fun e w' => e = .returned (.bool true) ∧ Below w.heap.size w w' := by
  have h := P a0 a1 w0 w1
  refine (stooklaw05_DrawStates.calls a0 a1 true w h).mono ?_
  rintro e w' ⟨rfl, hd⟩
  exact ⟨rfl, hd.below⟩

end Go.Proofs.Ytckpangkdlpmcaa.PDrawStates
