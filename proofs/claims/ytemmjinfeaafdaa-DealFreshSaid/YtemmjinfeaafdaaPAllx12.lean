/- deal.Back, walked by hand: it has a closure, which the print does not cover. -/
import Derived.Test.YtemmjinfeaafdaaPAllx5
import Derived.Test.YtemmjinfeaafdaaSwap
import Derived.Test.YtemmjinfeaafdaaPerm
import Derived.Test.YtemmjinfeaafdaaPlaces
namespace Go.Proofs.Ytemmjinfeaafdaa.PAll
open Go.RowKit Go.Proofs.YtemmjinfeaafdaaVW.PrintWords Go.Proofs.YtemmjinfeaafdaaVW.PrintLast Go.Proofs.YtemmjinfeaafdaaVW.PrintMore Go.Proofs.Ytemmjinfeaafdaa.Hand
attribute [local go_sem] max2_int min2_int max_two min_two max_three min_three max_four min_four   -- for this text's walks alone
set_option linter.unusedVariables false
set_option linter.unusedSimpArgs false

/-! ### deal_Back: function 16 -/
def deal_Back.f (k : Nat) (l0 : List Int) : Option (List Int × Int) := (deal_Turn.f k l0).bind fun bt1 => (if bt1.2 = 0 then (some (Perm.backs l0, 0)) else (some (([] : List Int), bt1.2)))
theorem deal_Back.mono : ∀ a0 k, LeO (deal_Back.f k a0) (deal_Back.f (k + 1) a0) := by
  intro a0 k
  unfold deal_Back.f
  repeat' first
      | (with_reducible exact deal_Turn.mono _ _)
      | (with_reducible exact LeO.refl _)
      | (with_reducible exact LeO.none _)
      | (with_reducible refine LeO.ite ?_ ?_)
      | (with_reducible refine LeO.bind ?_ (fun _ => ?_))
set_option maxHeartbeats 8000000 in
set_option maxRecDepth 100000 in
theorem deal_Back.calls (k : Nat) (A0 : Option Addr) (c0 : Nat) (l0 : List Int) (r1 : List Int) (r2 : Int) (w : World) (hr0 : Kd.C (Kd.int .i64) w A0 l0.length l0) (hc0 : l0.length ≤ c0) (h : deal_Back.f k l0 = some (r1, r2)) :
    Calls Try.prog 16 #[.slice A0 l0.length c0] w fun e w' => ∃ v0_ : Value, e = .returned (.tuple #[v0_, .int .i64 r2]) ∧ Kd.R (Kd.int .i64) 3 w' w.heap.size (fun _ => True) v0_ r1 ∧ Below w.heap.size w w' := by
  have hmf : ∀ (fn : Fn) (first cap : Array Value) (w : World), (Instr.makeFunc fn first cap).run Try.prog w = .ok (.func fn first cap) w := fun _ _ _ _ => rfl
  have HR0 := Aside0.mk hr0
  have HC0 := Aside0.mk hc0
  clear hr0 hc0
  have HB := Aside0.mk (Below.refl w.heap.size w)
  have H := h
  clear h
  unfold deal_Back.f at H
  replace H := Option.bind_eq_some_iff.mp H
  obtain ⟨⟨t1, t2⟩, A30, H⟩ := H
  replace H : (if t2 = 0 then (some (Perm.backs l0, 0)) else (some (([] : List Int), t2))) = some (r1, r2) := H
  by_cases c4 : t2 = 0
  · subst c4
    rw [if_pos rfl] at H
    simp only [Option.some.injEq, Prod.mk.injEq] at H
    obtain ⟨rfl, rfl⟩ := H
    obtain ⟨hn, ho⟩ := Pure.turn_ord A30
    obtain ⟨f, hf⟩ : ∃ f : Nat → Nat, f = fun i => (l0.getD i 0).toNat := ⟨_, rfl⟩
    have hord : Perm.Ord l0.length f ∧ ∀ x : Nat, x < l0.length → rd l0 (x : Int) = f x := by
      obtain ⟨f', e, o⟩ := ho
      have e2 : ∀ x : Nat, x < l0.length → rd l0 (x : Int) = f' x := fun x hx => by
        have := Pure.rd_nums (f := f') hx
        rw [← e] at this
        exact this
      have e3 : ∀ x : Nat, x < l0.length → f x = f' x := fun x hx => by
        have := e2 x hx
        rw [hf]
        unfold rd at this
        rw [Int.toNat_natCast] at this
        dsimp only
        omega
      exact ⟨⟨fun x hx => by rw [e3 x hx]; exact o.1 x hx, fun x y hx hy q => o.2 x y hx hy (by rw [← e3 x hx, ← e3 y hy]; exact q)⟩, fun x hx => by rw [e2 x hx, e3 x hx]⟩
    obtain ⟨hord, hrd⟩ := hord
    have hmk : ∀ W : World, (Instr.makeSlice 22 (.int .i64 (l0.length : Int)) (.int .i64 (l0.length : Int))).run Try.prog W = .ok (.slice (some ⟨W.heap.size, 0, none⟩) l0.length l0.length) (W.alloc (.cells (cellsOf (List.replicate l0.length 0)) 3)) := fun W => by
      obtain ⟨i0, hi, hz0, hz1, hz2⟩ := info_parts info3
      have hr := run_make (P := Try.prog) W 22 3 i0 (.int .i64 0) Try.underlying22 hi hz0 .i64 .i64 (l0.length : Int) (l0.length : Int) (by omega) (by omega) (by rw [hz2]; omega) (by omega)
      rw [hr, hz1, Int.toNat_natCast, made_cells]
    go_enter Try.func16, Try.ntmps16
    go_wp2_with (first | ((with_reducible refine gate_callee (f := 18) rfl ?_); refine goesL_ (some 15) rfl rfl Try.func18 (by kernel_rfl) rfl #[.slice A0 l0.length c0] rfl (by (try simp only [List.map_toArray, List.map_cons, List.map_nil]); first | done | rfl | (simp only [List.length_drop, List.length_take]; rfl)) ?_; (with_reducible refine (deal_Turn.calls k _ _ l0 t1 0 _ ?side1 ?side2 A30).mono ?_); (case side1 => repeat (first | exact HR0.out | (with_reducible refine Kd.C_alloc ?_ _) | (with_reducible refine Kd.C_drewN ?_ _) | (with_reducible refine Kd.C_drew ?_))); (case side2 => exact HC0.out); rintro e w8 ⟨v9, rfl, ho0, hb⟩; refine ⟨_, rfl, ?_⟩; have n0_ := Aside0.mk (Kd.R_lower ho0 (below_size (by repeat (first | (with_reducible first | exact HB.out | apply below_alloc | apply pw_below_drewN | apply below_drew1) | exact HB.out)))); have n1_ := Aside0.mk (below_step (by repeat (first | (with_reducible first | exact HB.out | apply below_alloc | apply pw_below_drewN | apply below_drew1) | exact HB.out)) hb); clear HB; have HO9 := n0_; have HB := n1_; clear n0_ n1_; (try clear hb); (try clear hb2); (try clear hk); (try clear hi); (try clear ho0)))
    have hst := start_st HB.out l0.length
    rw [← laid_zero] at hst
    clear HO9 HB
    obtain ⟨W4, hW4⟩ : ∃ W4, ((((w8.alloc (.cells (cellsOf (List.replicate l0.length 0)) 3)).alloc (.cells #[.slice (some ⟨w8.heap.size, 0, none⟩) l0.length l0.length] 22)).alloc (.cells (cellsOf (List.replicate l0.length 0)) 3)).alloc (.cells #[.slice (some ⟨w8.heap.size + 1 + 1, 0, none⟩) l0.length l0.length] 22)) = W4 := ⟨_, rfl⟩
    rw [laid_zero, hW4, ← laid_zero] at hst
    rw [hW4]
    clear hW4
    obtain ⟨s, hs⟩ : ∃ s, w8.heap.size = s := ⟨_, rfl⟩
    rw [hs] at hst ⊢
    clear hs
    go_loopw [30] (fun i wr => ∃ j : Nat, j ≤ l0.length ∧ i = .int .i64 j ∧ Aside0 (St w s l0.length (laid l0.length j) (laid l0.length j) wr)) (fun i _ => l0.length - (intOf i).toNat)
    case atStart => exact ⟨0, Nat.zero_le _, rfl, ⟨hst⟩⟩
    case round =>
      clear hst
      obtain ⟨j, hj, rfl, hSt⟩ := hrel
      by_cases hjl : j < l0.length
      · have cB1 := hSt.out.bn.cell
        have cB2 := hSt.out.bw.cell
        have q1 : (0 : Int) ≤ j := by omega
        have q2 : (j : Int) < l0.length := by omega
        obtain ⟨x1, ci⟩ : ∃ x, wr.cell? ⟨s, j, none⟩ = some (.int .i64 x) := ⟨_, hSt.out.rn.cell (by rw [laid_len]; exact hjl)⟩
        have fi := hSt.out.rn.free j
        obtain ⟨x2, ck⟩ : ∃ x, wr.cell? ⟨s + 1 + 1, j, none⟩ = some (.int .i64 x) := ⟨_, hSt.out.rw.cell (by rw [laid_len]; exact hjl)⟩
        have fk := hSt.out.rw.free j
        have hne : ¬ (s + 1 + 1 = s) := by omega
        go_wp2
        go_region
        have hS2 := Aside0.mk (hSt.out.two j j j j).drew
        rw [laid_set] at hS2
        go_wp2
        go_roundw
        case rel => exact ⟨j + 1, by omega, by first | rfl | go_num, hS2⟩
        case measure => simp [intOf]; omega
      · have ejl : j = l0.length := by omega
        subst ejl
        obtain ⟨M, hMd⟩ : ∃ M : Nat, M = l0.length - 1 := ⟨_, rfl⟩
        have hM0 : (if (0 : Int) < (l0.length : Int) - 1 then (l0.length : Int) - 1 else 0) = (M : Int) := by split <;> omega
        have hM1 : (if (1 : Int) < (l0.length : Int) then (l0.length : Int) - 1 else 0) = (M : Int) := by split <;> omega
        have hMA := Aside0.mk (show M ≤ 65536 by omega)
        clear hMd
        have hsz := hSt.out.lt
        go_wp2_with (first | ((with_reducible refine gate_dst (N := 46) rfl ?_); refine Kd.R_make_cap (Kd.int .i64) (w0 := w) w.heap.size 3 rfl (N := 46) rfl 22 _ _ rfl 0 (M : Int) rfl rfl Try.underlying22 (.int .i64 0) 8 info3 rfl (by decide) (by omega) 0 (ok := fun q => s + 4 ≤ q) (okp := fun _ => False) rfl (fun _ hq => hq.elim) hSt.out.lt (by omega) (by omega) (by have := hMA.out; omega) hSt.out.be (Nat.le_trans hSt.out.lo (by omega)) ?_; intro v10 w10 ho10 hb10 hg10 hnew10; have hS5 := Aside0.mk (hSt.out.grown hg10 (fun _ h => by cases h)); have hO5 := Aside0.mk ho10; clear hSt ho10 hb10 hg10 hnew10 hsz))
        have hlaid : laid l0.length l0.length = Pure.nums l0.length (Perm.B f l0.length 0).1 := laid_all _
        rw [hlaid] at hS5
        clear hlaid hM0 hM1
        go_loopw [10, 11] (fun v i wr => ∃ j : Nat, j ≤ l0.length - 1 ∧ i = .int .i64 ((l0.length : Int) - 1 - j) ∧ Aside0 (St w s l0.length (Pure.nums l0.length (Perm.B f l0.length j).1) (Pure.nums l0.length (Perm.B f l0.length j).2) wr) ∧ Aside0 (Kd.R (Kd.int .i64) 3 wr w.heap.size (fun q => s + 4 ≤ q) v (Perm.tab j (fun x => (Perm.stepsOf f l0.length x : Int))))) (fun _ i _ => (intOf i).toNat)
        case atStart => exact ⟨0, Nat.zero_le _, by simp, hS5, hO5⟩
        case round =>
          clear hS5 hO5
          obtain ⟨j, hjn, rfl, hSt, hO⟩ := hrel
          obtain ⟨gi, _, gk⟩ := Perm.B_ord hord j (by omega)
          by_cases hjl : j < l0.length - 1
          · obtain ⟨i', hi'⟩ : ∃ i' : Nat, i' = l0.length - 1 - j := ⟨_, rfl⟩
            have ei : (l0.length : Int) - 1 - j = (i' : Int) := by omega
            rw [ei]
            have q0 : (0 : Int) < i' := by omega
            have q1 : (0 : Int) ≤ i' := by omega
            have q2 : (i' : Int) < l0.length := by omega
            have hil : i' < l0.length := by omega
            have hm := hord.1 i' hil
            obtain ⟨m, hmd⟩ : ∃ m, m = f i' := ⟨_, rfl⟩
            have hkk := gi (f i') hm
            obtain ⟨kk, hkd⟩ : ∃ kk, kk = Perm.stepsOf f l0.length j := ⟨_, rfl⟩
            have hkd2 : (Perm.B f l0.length j).2 m = kk := by rw [hkd, hmd, hi']; rfl
            have hkl : kk < l0.length := by rw [← hkd2, hmd]; exact hkk.2.2.1
            obtain ⟨ad, eA, hx⟩ := Kd.at_int HR0.out (i' : Int) q1 q2
            cases eA
            rw [hrd i' hil, Int.toNat_natCast, ← hmd] at hx
            have hx2 := (hSt.out.be.cell (World.block_lt_of_cell? w _ hx)).trans hx
            rw [← hmd] at hm
            have hy : wr.cell? ⟨s + 1 + 1, m, none⟩ = some (.int .i64 (kk : Int)) := by
              rw [hSt.out.rw.cell (by rw [Pure.nums_len]; exact hm), Pure.nums_get hm, hkd2]
            have cB2 := hSt.out.bw.cell
            have q3 : (0 : Int) ≤ m := by omega
            have q4 : (m : Int) < l0.length := by omega
            have ha := Perm.B f l0.length j
            have HI := Aside0.mk hi'
            have HM := Aside0.mk hmd
            have HKD := Aside0.mk hkd
            have HKE := Aside0.mk hkd2
            have HEI := Aside0.mk ei
            clear ha hi' hmd hkd hkd2 ei hkk hrd hord
            go_wp2
            go_region
            have hS6 := Aside0.mk hSt.out.drew
            have hO6 := Aside0.mk (Kd.R_drew hO.out)
            obtain ⟨W6, hW6⟩ : ∃ W6, wr.drew = W6 := ⟨_, rfl⟩
            rw [hW6] at hS6 hO6 ⊢
            clear hW6 hSt hO hx2 hy cB2 hx
            go_wp2_with (first | ((with_reducible refine gate_builtin (b := .append) (xs := #[.tmp 61, .tmp 63]) rfl ?_); at_builtin; refine Kd.R_append (Kd.int .i64) (w0 := w) w.heap.size rfl (.tmp 61) (.tmp 63) 22 3 (.int .i64 0) 8 rfl Try.underlying22 info3 rfl (by decide) (by omega) u10 (Perm.tab j (fun x => (Perm.stepsOf f l0.length x : Int))) (kk : Int) [.int .i64 (kk : Int)] (fun q => s + 4 ≤ q) (fun _ => False) rfl rfl ?aP (fun _ hq => hq.elim) ?aF ?aO ?aB ?aS ?aL ?_; (case aP => exact rfl); (case aB => exact hS6.out.be); (case aF => exact (fun q hq => Nat.le_trans hS6.out.lt hq)); (case aO => exact hO6.out); (case aS => exact hS6.out.be.size); (case aL => rw [Perm.tab_len]; omega); intro v11 w11 ho hb hg hat; have hS7 := Aside0.mk (hS6.out.grown hg (fun q hq => hO6.out.1 q hq)); have hO7 := Aside0.mk ho; clear hS6 hO6 ho hb hg hat) | (go_at_call 34; refine (swap_any s (s + 1) (s + 1 + 1) (s + 1 + 1 + 1) l0.length i' kk ((Perm.B f l0.length j).1 i') ((Perm.B f l0.length j).1 kk) _ _ w11 hn (Pure.nums_len _ _) (Pure.nums_len _ _) hil hkl (Pure.nums_get hil) (Pure.nums_get hkl) (gi i' hil).1 (gi kk hkl).1 hS7.out.rn hS7.out.rw hS7.out.bn hS7.out.bw (by omega) (by omega) (by omega) (by omega) (by omega) (by omega)).mono ?_; rintro e w12 ⟨rfl, g1, g2, g3, g4, g5, g6⟩; have hO8 := Aside0.mk (Kd.R_step hO7.out (fun q hq _ => g6 q (by omega) (by omega))); have hS8 := Aside0.mk (St.mk g1 g3 g2 g4 (by simp only [List.length_set]; exact Pure.nums_len _ _) (by simp only [List.length_set]; exact Pure.nums_len _ _) (hS7.out.be.trans (g5 _ hS7.out.lo (Nat.le_trans hS7.out.lo (by omega)))) hS7.out.lo); clear g1 g2 g3 g4 g5 g6 hS7 hO7))
            rw [Pure.nums_set, Pure.nums_set, Pure.nums_set, Pure.nums_set, Perm.sw_upd] at hS8
            have eB : Perm.B f l0.length (j + 1) = (Perm.sw (Perm.B f l0.length j).1 i' kk, Perm.upd (Perm.upd (Perm.B f l0.length j).2 ((Perm.B f l0.length j).1 kk) i') ((Perm.B f l0.length j).1 i') kk) := by
              rw [HKD.out, HI.out]; rfl
            go_roundw
            case rel =>
              refine ⟨j + 1, by omega, by first | (have := HEI.out; congr 1; omega) | (have := HEI.out; simp; omega), ⟨by rw [eB]; exact hS8.out⟩, ⟨?_⟩⟩
              have := hO8.out
              rw [HKD.out] at this
              rw [← Perm.tab_snoc]
              exact this
            case measure => have := HEI.out; simp [intOf]; omega
          · have hneg : (l0.length : Int) - 1 - j ≤ 0 := by omega
            have hjM : l0.length - 1 = j := by omega
            have HJ := Aside0.mk hjM
            clear hjM hjl gi gk
            go_wp2
            go_ret2
            refine ⟨_, rfl, ?_, hSt.out.be⟩
            have e9 : Perm.backs l0 = Perm.tab j (fun x => (Perm.stepsOf f l0.length x : Int)) := by
              unfold Perm.backs
              rw [HJ.out, hf]
            rw [e9]
            exact Kd.R_mono hO.out (fun _ _ => trivial)
  · rw [if_neg c4] at H
    have c4b0 : (t2 == 0) = false := beq_eq_false_iff_ne.mpr c4
    have c4b1 : (t2 != 0) = true := bne_iff_ne.mpr c4
    simp only [Option.some.injEq, Prod.mk.injEq] at H
    obtain ⟨rfl, rfl⟩ := H
    go_enter Try.func16, Try.ntmps16
    go_wp2_with (first | ((with_reducible refine gate_callee (f := 18) rfl ?_); refine goesL_ (some 15) rfl rfl Try.func18 (by kernel_rfl) rfl #[.slice A0 l0.length c0] rfl (by (try simp only [List.map_toArray, List.map_cons, List.map_nil]); first | done | rfl | (simp only [List.length_drop, List.length_take]; rfl)) ?_; (with_reducible refine (deal_Turn.calls k _ _ l0 t1 t2 _ ?side1 ?side2 A30).mono ?_); (case side1 => repeat (first | exact HR0.out | (with_reducible refine Kd.C_alloc ?_ _) | (with_reducible refine Kd.C_drewN ?_ _) | (with_reducible refine Kd.C_drew ?_))); (case side2 => exact HC0.out); rintro e w8 ⟨v9, rfl, ho0, hb⟩; refine ⟨_, rfl, ?_⟩; have n0_ := Aside0.mk (Kd.R_lower ho0 (below_size (by repeat (first | (with_reducible first | exact HB.out | apply below_alloc | apply pw_below_drewN | apply below_drew1) | exact HB.out)))); have n1_ := Aside0.mk (below_step (by repeat (first | (with_reducible first | exact HB.out | apply below_alloc | apply pw_below_drewN | apply below_drew1) | exact HB.out)) hb); clear HB; have HO9 := n0_; have HB := n1_; clear n0_ n1_; (try clear hb); (try clear hb2); (try clear hk); (try clear hi); (try clear ho0)))
    go_ret2
    exact ⟨_, by first | rfl | (simp [errW_none, errW_some] <;> rfl) | (simp [*, errW_none, errW_some] <;> rfl), Kd.R_nil _ _ _ _ _, HB.out⟩
end Go.Proofs.Ytemmjinfeaafdaa.PAll
