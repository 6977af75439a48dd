/- stooklaw15.lives, walked by hand. -/
import Derived.Test.YtkecgmoaojklbaaGetHand
import Derived.Test.YtkecgmoaojklbaaPAllx3
set_option linter.unusedVariables false
set_option linter.unusedSimpArgs false
namespace Go.Proofs.Ytkecgmoaojklbaa.PAll
open Go.RowKit Go.Proofs.YtkecgmoaojklbaaVW.PrintWords Go.Proofs.YtkecgmoaojklbaaVW.PrintLast Go.Proofs.YtkecgmoaojklbaaVW.PrintMore
attribute [local go_sem] max2_int min2_int max_two min_two max_three min_three max_four min_four   -- for this text's walks alone
set_option maxHeartbeats 8000000 in
set_option maxRecDepth 100000 in
theorem lives_calls (k : Nat) (pb : List Int) (w : World) (hP : page_Put.f k 5 7 [97, 98] = some (pb, 0)) (hG : page_Get.f k 5 pb = some (7, [97, 98], 0)) (hl : pb.length = 512) (h4 : rd pb 4 = 5) (h8 : rd pb 8 = 7) (h10 : rd pb 10 = 2) (hS : stookref00_Same.f k [97, 98] [97, 98] = some true) :
    Calls Try.prog 8 #[] w fun e w' => e = .returned (.bool true) ∧ Below w.heap.size w w' := by
  have HP := Aside0.mk hP
  have HG := Aside0.mk hG
  have HL := Aside0.mk hl
  have H4 := Aside0.mk h4
  have H8 := Aside0.mk h8
  have H10 := Aside0.mk h10
  have HS := Aside0.mk hS
  clear hP hG hl h4 h8 h10 hS
  go_enter Try.func8, Try.ntmps8
  go_wp2_with (first
    | ((with_reducible refine gate_dst (N := 8) rfl ?_); (try (refine gate_guard (by rfl) ?_; dsimp only)); refine Kd.const_row _ rfl (N := 8) rfl 22 5 _ rfl Try.underlying22 Try.underlying5 [97, 98] 2 _ rfl rfl rfl (by omega) (Below.refl _ _) (Nat.le_refl _) ?_; intro A1 w1 hC1 hb1 _; have HC1 := Aside0.mk hC1; have H01 := Aside0.mk hb1; clear hC1 hb1)
    | (go_at_call 7; refine (page_Put.calls k 5 7 A1 2 [97, 98] pb 0 w1 HC1.out (Nat.le_refl _) HP.out).mono ?_; rintro e w2 ⟨vb, rfl, hob, hb2⟩; obtain ⟨g, cb, eb, hg, hlt, _⟩ := Kd.R_form hob (by rw [HL.out]; decide); subst eb; have HOB := Aside0.mk hob; have H12 := Aside0.mk hb2; clear hob hb2 hg hlt)
    | (go_at_call 9; refine (page_Get.calls k 5 (some ⟨g, 0, none⟩) cb pb 7 [97, 98] 0 w2 (Kd.R_reads' HOB.out).2.2 (Kd.R_reads' HOB.out).2.1 HG.out).mono ?_; rintro e w3 ⟨vc, rfl, hoc, _, hb3⟩; obtain ⟨Ac, cc, ec⟩ := Kd.R_slice hoc; subst ec; have HOC := Aside0.mk hoc; have H23 := Aside0.mk hb3; have HOB3 := Kd.R_below HOB.out hb3; have c4 := (Kd.R_celln 0 HOB3 4 (by decide) (by rw [HL.out]; decide)).1; have c8 := (Kd.R_celln 0 HOB3 8 (by decide) (by rw [HL.out]; decide)).1; have c10 := (Kd.R_celln 0 HOB3 10 (by decide) (by rw [HL.out]; decide)).1; have e4 : rdOf 0 pb 4 = 5 := H4.out; have e8 : rdOf 0 pb 8 = 7 := H8.out; have e10 : rdOf 0 pb 10 = 2 := H10.out; rw [e4, show (4 : Int).toNat = 4 from rfl] at c4; rw [e8, show (8 : Int).toNat = 8 from rfl] at c8; rw [e10, show (10 : Int).toNat = 10 from rfl] at c10; clear hoc hb3 HOB3 e4 e8 e10; have hl := HL.out)
    | ((with_reducible refine gate_dst (N := 54) rfl ?_); (try (refine gate_guard (by rfl) ?_; dsimp only)); refine Kd.const_row _ rfl (N := 54) rfl 22 5 _ rfl Try.underlying22 Try.underlying5 [97, 98] 2 _ rfl rfl rfl (by omega) (Below.refl _ _) (Nat.le_refl _) ?_; intro A4 w4 hC4 hb4 _; have HC4 := Aside0.mk hC4; have H34 := Aside0.mk hb4; clear hC4 hb4)
    | ((try (refine gate_guard (by rfl) ?_; dsimp only)); go_at_call 10; refine (stookref00_Same.calls k Ac cc [97, 98] A4 2 [97, 98] true w4 (Kd.C_below (Kd.R_reads' HOC.out).2.2 H34.out) (Kd.R_reads' HOC.out).2.1 HC4.out (Nat.le_refl _) HS.out).mono ?_; rintro e w5 ⟨rfl, ⟨n1, rfl⟩⟩))
  go_ret
  exact ⟨rfl, below_step (below_step (below_step (below_step H01.out H12.out) H23.out) H34.out) (pw_below_drewN (Below.refl _ _) n1)⟩
/-- What lives asks. -/
def Living (k : Nat) : Prop := ∃ pb : List Int, page_Put.f k 5 7 [97, 98] = some (pb, 0) ∧ page_Get.f k 5 pb = some (7, [97, 98], 0) ∧ pb.length = 512 ∧ rd pb 4 = 5 ∧ rd pb 8 = 7 ∧ rd pb 10 = 2 ∧ stookref00_Same.f k [97, 98] [97, 98] = some true
theorem Living.calls {k : Nat} (h : Living k) (w : World) : Calls Try.prog 8 #[] w fun e w' => e = .returned (.bool true) ∧ Below w.heap.size w w' := by
  obtain ⟨pb, h1, h2, h3, h4, h5, h6, h7⟩ := h
  exact lives_calls k pb w h1 h2 h3 h4 h5 h6 h7
end Go.Proofs.Ytkecgmoaojklbaa.PAll
