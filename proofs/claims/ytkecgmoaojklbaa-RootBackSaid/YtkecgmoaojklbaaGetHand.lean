/- page.Get, walked by hand: its variable is an array, which the print does not cover. -/
import Derived.Test.YtkecgmoaojklbaaPutHand
import Derived.ChangeKeysEq
import Derived.Laws.StructEq
import Derived.BigRegion
import Derived.Deep.RegionLaw
namespace Go.Proofs.Ytkecgmoaojklbaa.PAll
open Go.RowKit Go.Proofs.YtkecgmoaojklbaaVW.PrintWords Go.Proofs.YtkecgmoaojklbaaVW.PrintLast Go.Proofs.YtkecgmoaojklbaaVW.PrintMore
theorem eq_from (d : Nat) (W : World) (P L : List Int) (n : Nat) (hP : P.length = n) (hL : L.length = n) (d2 : Nat) : ∀ s, s + d2 = n →
    (forIn (m := Sem) (List.range' s d2) ((none, ()) : Option Bool × Unit) fun i __s => do
            let __do_lift ← part 5 (bytes P) (i * 1)
            let __do_lift_1 ← part 5 (bytes L) (i * 1)
            let __do_lift ← Op.equalIn (d + 1) 5 __do_lift __do_lift_1
            if (!__do_lift) = true then pure (ForInStep.done (some false, ())) else pure (ForInStep.yield (none, ()))).run Try.prog W = .ok (if P.drop s = L.drop s then (none, ()) else (some false, ())) W := by
  induction d2 with
  | zero =>
    intro s hs
    rw [List.drop_of_length_le (by omega), List.drop_of_length_le (by omega), if_pos rfl]
    rfl
  | succ m ih =>
    intro s hs
    have hp : s < P.length := by omega
    have hl : s < L.length := by omega
    have h5 : Try.prog.plainKey 5 = true := by kernel_rfl
    have e1 : (part 5 (bytes P) (s * 1)).run Try.prog W = .ok (.int .u8 (P[s]'hp)) W := run_part_plain W h5 (by rw [Nat.mul_one]; simp [bytes, hp])
    have e2 : (part 5 (bytes L) (s * 1)).run Try.prog W = .ok (.int .u8 (L[s]'hl)) W := run_part_plain W h5 (by rw [Nat.mul_one]; simp [bytes, hl])
    rw [List.range'_succ, List.forIn_cons]
    simp only [Sem.run_bind, e1, e2, Result.andThen_ok, run_equalIn_int W d 5 .u8 .u8 _ _ Try.underlying5]
    rw [List.drop_eq_getElem_cons hp, List.drop_eq_getElem_cons hl]
    by_cases he : P[s]'hp = L[s]'hl
    · have hb : (P[s]'hp == L[s]'hl) = true := beq_iff_eq.mpr he
      rw [hb]
      simp only [Bool.not_true, Bool.false_eq_true, if_false, Sem.run_pure, Result.andThen_ok]
      rw [ih (s + 1) (by omega), he]
      congr 1
      by_cases ht : P.drop (s + 1) = L.drop (s + 1)
      · rw [if_pos ht, if_pos (by rw [ht])]
      · rw [if_neg ht, if_neg (fun q => ht (List.cons.inj q).2)]
    · have hb : (P[s]'hp == L[s]'hl) = false := beq_eq_false_iff_ne.mpr he
      rw [hb, if_neg (fun q => he (List.cons.inj q).1)]
      simp only [Bool.not_false, if_true, Sem.run_pure, Result.andThen_ok]
theorem eq_bytes (d : Nat) (W : World) (P L : List Int) (hP : P.length = 512) (hL : L.length = 512) : (Op.equalIn (d + 2) 43 (.agg (bytes P)) (.agg (bytes L))).run Try.prog W = .ok (decide (P = L)) W := by
  obtain ⟨i0, hi, hz0, hz1, hz2⟩ := info_parts info5
  rw [Op.equalIn]
  simp only [Sem.run_bind, run_underlying Try.underlying43, Result.andThen_ok, sizeOf, typeInfo, run_program, hi, hz1, Sem.run_pure]
  simp only [Std.Legacy.Range.forIn_eq_forIn_range', Std.Legacy.Range.size, Nat.sub_zero, Nat.add_one_sub_one, Nat.div_one]
  rw [eq_from d W P L 512 hP hL 512 0 (by omega)]
  rw [List.drop_zero, List.drop_zero]
  by_cases h : P = L
  · rw [if_pos h, decide_eq_true h]
    rfl
  · rw [if_neg h, decide_eq_false h]
    rfl
attribute [local go_sem] max2_int min2_int max_two min_two max_three min_three max_four min_four   -- for this text's walks alone
set_option linter.unusedVariables false
set_option linter.unusedSimpArgs false

/-! ### page_Get: function 12 -/
/-- The length that a page tells. -/
def told (l : List Int) : Int := bits .or .i64 (wrap64 (rd l 10)) (wrap64 (wrap64 (rd l 11) * 256))
def cut (l : List Int) : List Int := (l.drop 12).take (told l).toNat
def sumok (s : Int) (l : List Int) : Prop := rd l 0 = sb s 0 ∧ rd l 1 = sb s 1 ∧ rd l 2 = sb s 2 ∧ rd l 3 = sb s 3
instance (s : Int) (l : List Int) : Decidable (sumok s l) := by unfold sumok; infer_instance
def page_Get.f (k : Nat) (a0 : Int) (l1 : List Int) : Option (Int × List Int × Int) := if a0 < 0 ∨ a0 ≥ 65536 then (some (0, ([] : List Int), 2)) else (if l1.length < 512 then (some (0, ([] : List Int), 4)) else (if l1.length > 512 then (some (0, ([] : List Int), 5)) else ((crc_Of.f k (l1.drop 4)).bind fun s => (if sumok s l1 then (if told l1 > 496 then (some (0, ([] : List Int), 5)) else (if 0 ≤ told l1 then ((crc_Of.f k ((laidm a0 (rd l1 8) (cut l1)).drop 4)).bind fun s2 => (if laidp s2 a0 (rd l1 8) (cut l1) = l1 then (some (rd l1 8, cut l1, 0)) else (some (0, ([] : List Int), 5)))) else (none))) else (some (0, ([] : List Int), 6))))))
theorem page_Get.mono : ∀ a0 a1 k, LeO (page_Get.f k a0 a1) (page_Get.f (k + 1) a0 a1) := by
  intro a0 a1 k
  unfold page_Get.f
  repeat' first
      | (with_reducible exact crc_Of.mono _ _)
      | (with_reducible exact LeO.refl _)
      | (with_reducible exact LeO.none _)
      | (with_reducible refine LeO.ite ?_ ?_)
      | (with_reducible refine LeO.bind ?_ (fun _ => ?_))
theorem sum_at {s : Int} {l : List Int} {j : Nat} (hj : j < 4) (h : sumok s l) : rd l (j : Int) = sb s j := by
  obtain ⟨h0, h1, h2, h3⟩ := h
  match j, hj with
  | 0, _ => exact h0
  | 1, _ => exact h1
  | 2, _ => exact h2
  | 3, _ => exact h3
theorem Brow.reads2 {w : World} {g : Nat} {l : List Int} (h : Brow w g l) (i m : Nat) (hi : i + m ≤ l.length) (hl : l.length ≤ 1000000) : Kd.C (Kd.int .u8) w (some ⟨g, i, none⟩) m ((l.drop i).take m) := by
  have hlen : ((l.drop i).take m).length = m := by rw [List.length_take, List.length_drop]; omega
  refine Kd.C_of_reads (d := (0 : Int)) (h1 := fun _ => rfl) ⟨hlen, by omega, fun _ => ⟨_, rfl, fun j hj => ?_⟩⟩
  have e : (⟨g, i, none⟩ : Addr).add j = ⟨g, i + j, none⟩ := Addr.add_lit _ _ _
  rw [e, h.cell (by omega)]
  unfold rd
  rw [Int.toNat_natCast, List.getD_eq_getElem?_getD, List.getD_eq_getElem?_getD, List.getElem?_take, if_pos hj, List.getElem?_drop]
set_option maxHeartbeats 8000000 in
set_option maxRecDepth 100000 in
theorem page_Get.calls (k : Nat) (a0 : Int) (A1 : Option Addr) (c1 : Nat) (l1 : List Int) (r1 : Int) (r2 : List Int) (r3 : Int) (w : World) (hr1 : Kd.C (Kd.int .u8) w A1 l1.length l1) (hc1 : l1.length ≤ c1) (h : page_Get.f k a0 l1 = some (r1, r2, r3)) :
    Calls Try.prog 9 #[.int .i64 a0, .slice A1 l1.length c1] w fun e w' => ∃ v1_ : Value, e = .returned (.tuple #[.int .u8 r1, v1_, .int .i64 r3]) ∧ Kd.R (Kd.int .u8) 5 w' w.heap.size (fun _ => True) v1_ r2 ∧ Full .u8 w' w.heap.size v1_ ∧ Below w.heap.size w w' := by
  have HR := Aside0.mk hr1
  have HC := Aside0.mk hc1
  clear hr1 hc1
  unfold page_Get.f at h
  by_cases c1_ : a0 < 0 ∨ a0 ≥ 65536
  · rw [if_pos c1_] at h
    simp only [Option.some.injEq, Prod.mk.injEq] at h
    obtain ⟨rfl, rfl, rfl⟩ := h
    by_cases c3 : a0 < 0
    · clear c1_
      go_enter Try.func9, Try.ntmps9
      go_wp2
      go_ret3
      exact ⟨_, rfl, Kd.R_nil _ _ _ _ _, Or.inl rfl, Below.refl _ _⟩
    · have c4 : 65536 ≤ a0 := by omega
      clear c1_
      go_enter Try.func9, Try.ntmps9
      go_wp2
      go_ret3
      exact ⟨_, rfl, Kd.R_nil _ _ _ _ _, Or.inl rfl, Below.refl _ _⟩
  · rw [if_neg c1_] at h
    have c3 : ¬ (a0 < 0) := by omega
    have c4 : ¬ (65536 ≤ a0) := by omega
    clear c1_
    by_cases c5 : l1.length < 512
    · rw [if_pos c5] at h
      simp only [Option.some.injEq, Prod.mk.injEq] at h
      obtain ⟨rfl, rfl, rfl⟩ := h
      have c6 : (l1.length : Int) < 512 := by omega
      go_enter Try.func9, Try.ntmps9
      go_wp2
      go_ret3
      exact ⟨_, rfl, Kd.R_nil _ _ _ _ _, Or.inl rfl, Below.refl _ _⟩
    · rw [if_neg c5] at h
      by_cases c7 : l1.length > 512
      · rw [if_pos c7] at h
        simp only [Option.some.injEq, Prod.mk.injEq] at h
        obtain ⟨rfl, rfl, rfl⟩ := h
        have c6 : ¬ ((l1.length : Int) < 512) := by omega
        have c8 : (512 : Int) < (l1.length : Int) := by omega
        go_enter Try.func9, Try.ntmps9
        go_wp2
        go_ret3
        exact ⟨_, rfl, Kd.R_nil _ _ _ _ _, Or.inl rfl, Below.refl _ _⟩
      · rw [if_neg c7] at h
        have hl : l1.length = 512 := by omega
        obtain ⟨s, hs, h2⟩ := Option.bind_eq_some_iff.mp h
        clear h
        have c6 : ¬ ((l1.length : Int) < 512) := by omega
        have c8 : ¬ ((512 : Int) < (l1.length : Int)) := by omega
        have HL := Aside0.mk hl
        have HS := Aside0.mk hs
        have H := Aside0.mk h2
        have hz := zero36
        obtain ⟨Z, hZ⟩ : ∃ Z, Z = List.replicate 512 (0 : Int) := ⟨_, rfl⟩
        rw [← hZ] at hz
        have HZ := Aside0.mk hZ
        have HZr : Aside0 (Brow (w.alloc (.cells (bytes Z) 43)) w.heap.size Z) := ⟨⟨43, heap_alloc_new w _⟩⟩
        have HB1 := Aside0.mk (below_alloc (Below.refl w.heap.size w) (.cells (bytes Z) 43))
        have hl4 : Aside0 ((l1.drop 4).length = 508) := ⟨by rw [List.length_drop, hl]⟩
        clear c5 c7 hl hs h2 hZ
        go_enter Try.func9, Try.ntmps9
        go_wp2_with (first
          | ((with_reducible refine gate_builtin (b := .copy) (xs := #[.tmp 26, .tmp 27]) rfl ?_); obtain ⟨W4, hr4, hb4, hk4, hbl4⟩ := brow_copy _ w.heap.size 0 l1.length c1 _ l1 A1 3 512 HZr.out (Kd.C_alloc HR.out _) (by rw [HZ.out, HL.out, List.length_replicate]; omega) (by rw [HL.out]; omega); refine wpList_copy _ rfl (.tmp 26) (.tmp 27) 22 rfl _ _ rfl rfl _ W4 hr4 ?_; have HP4 : Aside0 (Brow W4 w.heap.size l1) := ⟨by rw [List.take_zero, List.nil_append, List.drop_of_length_le (by rw [HZ.out, HL.out, List.length_replicate]; omega), List.append_nil] at hb4; exact hb4⟩; have HB4 := Aside0.mk (HB1.out.trans hbl4); clear hr4 hb4 hk4 hbl4)
          | (go_at_call 23; refine calls_of_args (args' := #[.slice (some ⟨w.heap.size, 4, none⟩) (l1.drop 4).length 508]) (by rw [hl4.out]) ?_; refine (crc_Of.calls k _ 508 (l1.drop 4) s W4 (by rw [List.length_drop]; exact HP4.out.reads 4 (by rw [HL.out]; omega) (by rw [HL.out]; omega)) (Nat.le_of_eq hl4.out) HS.out).mono ?_; rintro e w' ⟨rfl, ⟨nd, rfl⟩⟩))
        have HP5 : Aside0 (Brow (W4.drewN nd) w.heap.size l1) := ⟨HP4.out.below (pw_below_drewN (Below.refl _ _) nd)⟩
        have HB5 := Aside0.mk (pw_below_drewN HB4.out nd)
        clear HP4 HB4 HZr HB1
        go_loopw [31] (fun i wr => ∃ j : Nat, j ≤ 4 ∧ i = .int .i64 j ∧ Aside0 (∀ q : Nat, q < j → rd l1 (q : Int) = sb s q) ∧ Aside0 (Brow wr w.heap.size l1) ∧ Aside0 (Below w.heap.size w wr)) (fun i _ => 4 - (intOf i).toNat)
        case atStart => exact ⟨0, Nat.zero_le _, rfl, ⟨fun q hq => absurd hq (Nat.not_lt_zero _)⟩, HP5, HB5⟩
        case round =>
          clear HP5 HB5
          obtain ⟨j, hj, rfl, hQ, hP, hB⟩ := hrel
          by_cases hjl : j < 4
          · have q1 : (0 : Int) ≤ (j : Int) := by omega
            have q2 : (j : Int) < 512 := by omega
            have q3 : (j : Int) < 4 := by omega
            have q4 : (0 : Int) ≤ 8 * (j : Int) := by omega
            have hl := HL.out
            have ci := hP.out.cell (i := j) (by omega)
            clear hl
            by_cases he : rd l1 (j : Int) = sb s j
            · have heb : (rd l1 (j : Int) != s / 2 ^ (8 * j) % 256) = false := bne_eq_false_iff_eq.mpr he
              have HE := Aside0.mk he
              clear he
              go_wp2
              go_region
              go_wp2
              go_roundw
              case rel => exact ⟨j + 1, by omega, by first | rfl | go_num, ⟨fun q hq => by
                by_cases hqj : q = j
                · rw [hqj]; exact HE.out
                · exact hQ.out q (by omega)⟩, ⟨hP.out⟩, ⟨hB.out.drew⟩⟩
              case measure => simp [intOf]; omega
            · have heb : (rd l1 (j : Int) != s / 2 ^ (8 * j) % 256) = true := bne_iff_ne.mpr he
              have h := H.out
              rw [if_neg (fun q => he (sum_at hjl q))] at h
              simp only [Option.some.injEq, Prod.mk.injEq] at h
              obtain ⟨rfl, rfl, rfl⟩ := h
              clear he
              go_wp2
              go_region
              go_wp2
              go_ret3
              exact ⟨_, rfl, Kd.R_nil _ _ _ _ _, Or.inl rfl, hB.out.drew⟩
          · have ej : j = 4 := by omega
            subst ej
            have hsum : sumok s l1 := ⟨hQ.out 0 (by omega), hQ.out 1 (by omega), hQ.out 2 (by omega), hQ.out 3 (by omega)⟩
            have h := H.out
            rw [if_pos hsum] at h
            clear hsum hQ H hjl hj
            have hl := HL.out
            have c8' := hP.out.cell (i := 8) (by omega)
            have c10 := hP.out.cell (i := 10) (by omega)
            have c11 := hP.out.cell (i := 11) (by omega)
            clear hl
            by_cases ct : told l1 > 496
            · rw [if_pos ct] at h
              simp only [Option.some.injEq, Prod.mk.injEq] at h
              obtain ⟨rfl, rfl, rfl⟩ := h
              have ct2 : (496 : Int) < bits .or .i64 (wrap64 (rd l1 10)) (wrap64 (wrap64 (rd l1 11) * 256)) := ct
              clear ct
              go_wp2
              go_ret3
              exact ⟨_, rfl, Kd.R_nil _ _ _ _ _, Or.inl rfl, hB.out⟩
            · rw [if_neg ct] at h
              by_cases ct0 : 0 ≤ told l1
              · rw [if_pos ct0] at h
                obtain ⟨s2, hs2, h3⟩ := Option.bind_eq_some_iff.mp h
                clear h
                obtain ⟨t, ht⟩ : ∃ t : Nat, told l1 = (t : Int) := ⟨(told l1).toNat, by omega⟩
                have HCutL : Aside0 ((cut l1).length = t) := ⟨by unfold cut; rw [List.length_take, List.length_drop, HL.out, ht, Int.toNat_natCast]; omega⟩
                have HCut : Aside0 (Kd.C (Kd.int .u8) wr (some ⟨w.heap.size, 12, none⟩) t (cut l1)) := ⟨by
                  have h9 := hP.out.reads2 12 t (by rw [HL.out]; omega) (by rw [HL.out]; omega)
                  have e9 : (l1.drop 12).take t = cut l1 := by unfold cut; rw [ht, Int.toNat_natCast]
                  rw [e9] at h9
                  exact h9⟩
                have HCL : Aside0 ((cut l1).length ≤ 496) := ⟨by rw [HCutL.out]; omega⟩
                have hT : bits .or .i64 (wrap64 (rd l1 10)) (wrap64 (wrap64 (rd l1 11) * 256)) = (t : Int) := ht
                have ct2 : (t : Int) ≤ 496 := by omega
                have ct3 : ¬ ((496 : Int) < (t : Int)) := by omega
                have ct4 : (0 : Int) ≤ 12 + (t : Int) := by omega
                have ct5 : (12 : Int) + (t : Int) ≤ 512 := by omega
                have ct6 : (12 : Int) ≤ 12 + (t : Int) := by omega
                have ct7 : ((12 : Int) + (t : Int)).toNat = 12 + t := by omega
                have HS2 := Aside0.mk hs2
                have hlp := laidp_len s2 a0 (rd l1 8) (cut l1) HCL.out
                obtain ⟨P, hP_⟩ : ∃ P, P = laidp s2 a0 (rd l1 8) (cut l1) := ⟨_, rfl⟩
                rw [← hP_] at h3 hlp
                obtain ⟨B, hBB⟩ : ∃ B, B = bytes P := ⟨_, rfl⟩
                obtain ⟨L, hLL⟩ : ∃ L, L = bytes l1 := ⟨_, rfl⟩
                have HPP := Aside0.mk hP_
                have HPB := Aside0.mk hBB
                have HLB := Aside0.mk hLL
                have hszL : Aside0 (L.size = 512) := ⟨by rw [hLL, bytes_size, HL.out]⟩
                have hneq : ∀ W : World, (binOp .neq 43 (.agg B) (.agg L)).run Try.prog W = .ok (.bool (!decide (P = l1))) W := fun W => by
                  rw [hBB, hLL, run_neq_struct, eq_bytes 9998 W P l1 hlp HL.out]
                  rfl
                clear ct ct0 hs2 ht hP_ hBB hLL hlp hz
                by_cases hPe : P = l1
                · rw [if_pos hPe] at h3
                  simp only [Option.some.injEq, Prod.mk.injEq] at h3
                  obtain ⟨rfl, rfl, rfl⟩ := h3
                  rw [decide_eq_true hPe] at hneq
                  clear hPe
                  go_wp2_with (first | (go_at_call 22; refine (clone_calls ⟨w.heap.size, 12, none⟩ t 500 (cut l1) wr HCut.out (by rw [HCutL.out]; omega)).mono ?_; rintro e w2 ⟨v, rfl, ho, hb2⟩; obtain ⟨Av, cv, ev⟩ := Kd.R_slice ho.1; subst ev; have HO := Aside0.mk ho; have HB2 := Aside0.mk hb2; clear ho hb2))
                  have hP2 : Brow w2.drew w.heap.size l1 := hP.out.below (HB2.out.drew)
                  have c8w := hP2.cell (i := 8) (by rw [HL.out]; decide)
                  obtain ⟨t2, hg2⟩ := hP2
                  have hP2 : Brow w2.drew w.heap.size l1 := ⟨t2, hg2⟩
                  rw [← HLB.out] at hg2
                  refine wp_region_any (by kernel_rfl) ?_
                  change wpAny _ _ _ _ _ _ _ (World.drew _)
                  refine wpAny_take (i := 0) (v := .int .i64 a0) rfl (by kernel_rfl) (by kernel_rfl) (by kernel_rfl) (fun _ _ _ h => h) (Or.inl ⟨by rfl, fun w => by go_simp⟩) ?_
                  refine wpAny_take (i := 1) (v := .pointer (some ⟨w.heap.size, 8, none⟩)) rfl (by kernel_rfl) (by kernel_rfl) (by kernel_rfl) (fun _ _ _ h => h) (Or.inl ⟨by rfl, fun w => by go_simp⟩) ?_
                  refine wpAny_take (i := 3) (v := .slice Av (cut l1).length cv) rfl (by kernel_rfl) (by kernel_rfl) (by kernel_rfl) (fun _ _ _ h => h) (Or.inl ⟨by rfl, fun w => by go_simp⟩) ?_
                  refine wpAny_ready (rs := [2, 5]) (by kernel_rfl) (by simp) ?_
                  refine AllReady.cons rfl (fun K hK => ?_) (AllReady.cons rfl (fun K hK => ?_) AllReady.nil)
                  · go_simp
                    refine hK _ _ ?_
                    clear hK K
                    refine wpAny_ready (rs := [4, 5]) (by kernel_rfl) (by simp) ?_
                    refine AllReady.cons rfl (fun K hK => ?_) (AllReady.cons rfl (fun K hK => ?_) AllReady.nil)
                    · go_simp
                      go_at_call 21
                      refine (laid_calls k s2 a0 (rd l1 8) Av cv (cut l1) _ (Kd.C_below (Kd.R_reads' HO.out.1).2.2 (pw_below_drewN (Below.refl _ _) 1)) (Kd.R_reads' HO.out.1).2.1 HCL.out HS2.out).mono ?_
                      rintro e w6 ⟨he6, hb6⟩
                      rw [← HPP.out, ← HPB.out] at he6
                      subst he6
                      have HB6 := Aside0.mk hb6
                      clear hb6
                      have hg6 := (HB6.out.block w.heap.size hP2.lt).trans hg2
                      go_simp
                      refine hK _ _ ?_
                      clear hK K
                      refine wpAny_ready (rs := [5]) (by kernel_rfl) (by simp) ?_
                      refine AllReady.cons rfl (fun K hK => ?_) AllReady.nil
                      rw [if_pos (by simp [Region.wanted])]
                      refine wp_load_row 43 (.tmp 7) rfl w.heap.size (by go_simp) t2 L (0, 0) _ hg6 Try.underlying43 rfl (by rw [hszL.out]; exact size36) ?_
                      refine hK _ _ ?_
                      clear hK K
                      refine wpAny_ready (rs := [6]) (by kernel_rfl) (by simp) ?_
                      refine AllReady.cons rfl (fun K hK => ?_) AllReady.nil
                      go_simp
                      refine hK _ _ ?_
                      clear hK K
                      refine wpAny_done (by kernel_rfl) ?_ _
                      have c8f := (HB6.out.cell (World.block_lt_of_cell? _ _ c8w)).trans c8w
                      go_wp2
                      go_ret3
                      exact ⟨_, rfl, Kd.R_lower (Kd.R_below (Kd.R_below HO.out.1 ((Below.refl _ _).drew)) HB6.out) hB.out.size, ((HO.out.2.below ((Below.refl _ _).drew)).below HB6.out).lower hB.out.size, below_step (below_step hB.out HB2.out) (below_step ((Below.refl _ _).drew) HB6.out)⟩
                    · rw [if_pos (by simp [Region.wanted])]
                      refine wp_load_row 43 (.tmp 7) rfl w.heap.size (by go_simp) t2 L (0, 0) _ hg2 Try.underlying43 rfl (by rw [hszL.out]; exact size36) ?_
                      refine hK _ _ ?_
                      clear hK K
                      refine wpAny_ready (rs := [4]) (by kernel_rfl) (by simp) ?_
                      refine AllReady.cons rfl (fun K hK => ?_) AllReady.nil
                      go_simp
                      go_at_call 21
                      refine (laid_calls k s2 a0 (rd l1 8) Av cv (cut l1) _ (Kd.C_below (Kd.R_reads' HO.out.1).2.2 (pw_below_drewN (Below.refl _ _) 1)) (Kd.R_reads' HO.out.1).2.1 HCL.out HS2.out).mono ?_
                      rintro e w6 ⟨he6, hb6⟩
                      rw [← HPP.out, ← HPB.out] at he6
                      subst he6
                      have HB6 := Aside0.mk hb6
                      clear hb6
                      go_simp
                      refine hK _ _ ?_
                      clear hK K
                      refine wpAny_ready (rs := [6]) (by kernel_rfl) (by simp) ?_
                      refine AllReady.cons rfl (fun K hK => ?_) AllReady.nil
                      go_simp
                      refine hK _ _ ?_
                      clear hK K
                      refine wpAny_done (by kernel_rfl) ?_ _
                      have c8f := (HB6.out.cell (World.block_lt_of_cell? _ _ c8w)).trans c8w
                      go_wp2
                      go_ret3
                      exact ⟨_, rfl, Kd.R_lower (Kd.R_below (Kd.R_below HO.out.1 ((Below.refl _ _).drew)) HB6.out) hB.out.size, ((HO.out.2.below ((Below.refl _ _).drew)).below HB6.out).lower hB.out.size, below_step (below_step hB.out HB2.out) (below_step ((Below.refl _ _).drew) HB6.out)⟩
                  · rw [if_pos (by simp [Region.wanted])]
                    refine wp_load_row 43 (.tmp 7) rfl w.heap.size (by go_simp) t2 L (0, 0) _ hg2 Try.underlying43 rfl (by rw [hszL.out]; exact size36) ?_
                    refine hK _ _ ?_
                    clear hK K
                    refine wpAny_ready (rs := [2]) (by kernel_rfl) (by simp) ?_
                    refine AllReady.cons rfl (fun K hK => ?_) AllReady.nil
                    go_simp
                    refine hK _ _ ?_
                    clear hK K
                    refine wpAny_ready (rs := [4]) (by kernel_rfl) (by simp) ?_
                    refine AllReady.cons rfl (fun K hK => ?_) AllReady.nil
                    go_simp
                    go_at_call 21
                    refine (laid_calls k s2 a0 (rd l1 8) Av cv (cut l1) _ (Kd.C_below (Kd.R_reads' HO.out.1).2.2 (pw_below_drewN (Below.refl _ _) 1)) (Kd.R_reads' HO.out.1).2.1 HCL.out HS2.out).mono ?_
                    rintro e w6 ⟨he6, hb6⟩
                    rw [← HPP.out, ← HPB.out] at he6
                    subst he6
                    have HB6 := Aside0.mk hb6
                    clear hb6
                    go_simp
                    refine hK _ _ ?_
                    clear hK K
                    refine wpAny_ready (rs := [6]) (by kernel_rfl) (by simp) ?_
                    refine AllReady.cons rfl (fun K hK => ?_) AllReady.nil
                    go_simp
                    refine hK _ _ ?_
                    clear hK K
                    refine wpAny_done (by kernel_rfl) ?_ _
                    have c8f := (HB6.out.cell (World.block_lt_of_cell? _ _ c8w)).trans c8w
                    go_wp2
                    go_ret3
                    exact ⟨_, rfl, Kd.R_lower (Kd.R_below (Kd.R_below HO.out.1 ((Below.refl _ _).drew)) HB6.out) hB.out.size, ((HO.out.2.below ((Below.refl _ _).drew)).below HB6.out).lower hB.out.size, below_step (below_step hB.out HB2.out) (below_step ((Below.refl _ _).drew) HB6.out)⟩
                · rw [if_neg hPe] at h3
                  simp only [Option.some.injEq, Prod.mk.injEq] at h3
                  obtain ⟨rfl, rfl, rfl⟩ := h3
                  rw [decide_eq_false hPe] at hneq
                  clear hPe
                  go_wp2_with (first | (go_at_call 22; refine (clone_calls ⟨w.heap.size, 12, none⟩ t 500 (cut l1) wr HCut.out (by rw [HCutL.out]; omega)).mono ?_; rintro e w2 ⟨v, rfl, ho, hb2⟩; obtain ⟨Av, cv, ev⟩ := Kd.R_slice ho.1; subst ev; have HO := Aside0.mk ho; have HB2 := Aside0.mk hb2; clear ho hb2))
                  have hP2 : Brow w2.drew w.heap.size l1 := hP.out.below (HB2.out.drew)
                  have c8w := hP2.cell (i := 8) (by rw [HL.out]; decide)
                  obtain ⟨t2, hg2⟩ := hP2
                  have hP2 : Brow w2.drew w.heap.size l1 := ⟨t2, hg2⟩
                  rw [← HLB.out] at hg2
                  refine wp_region_any (by kernel_rfl) ?_
                  change wpAny _ _ _ _ _ _ _ (World.drew _)
                  refine wpAny_take (i := 0) (v := .int .i64 a0) rfl (by kernel_rfl) (by kernel_rfl) (by kernel_rfl) (fun _ _ _ h => h) (Or.inl ⟨by rfl, fun w => by go_simp⟩) ?_
                  refine wpAny_take (i := 1) (v := .pointer (some ⟨w.heap.size, 8, none⟩)) rfl (by kernel_rfl) (by kernel_rfl) (by kernel_rfl) (fun _ _ _ h => h) (Or.inl ⟨by rfl, fun w => by go_simp⟩) ?_
                  refine wpAny_take (i := 3) (v := .slice Av (cut l1).length cv) rfl (by kernel_rfl) (by kernel_rfl) (by kernel_rfl) (fun _ _ _ h => h) (Or.inl ⟨by rfl, fun w => by go_simp⟩) ?_
                  refine wpAny_ready (rs := [2, 5]) (by kernel_rfl) (by simp) ?_
                  refine AllReady.cons rfl (fun K hK => ?_) (AllReady.cons rfl (fun K hK => ?_) AllReady.nil)
                  · go_simp
                    refine hK _ _ ?_
                    clear hK K
                    refine wpAny_ready (rs := [4, 5]) (by kernel_rfl) (by simp) ?_
                    refine AllReady.cons rfl (fun K hK => ?_) (AllReady.cons rfl (fun K hK => ?_) AllReady.nil)
                    · go_simp
                      go_at_call 21
                      refine (laid_calls k s2 a0 (rd l1 8) Av cv (cut l1) _ (Kd.C_below (Kd.R_reads' HO.out.1).2.2 (pw_below_drewN (Below.refl _ _) 1)) (Kd.R_reads' HO.out.1).2.1 HCL.out HS2.out).mono ?_
                      rintro e w6 ⟨he6, hb6⟩
                      rw [← HPP.out, ← HPB.out] at he6
                      subst he6
                      have HB6 := Aside0.mk hb6
                      clear hb6
                      have hg6 := (HB6.out.block w.heap.size hP2.lt).trans hg2
                      go_simp
                      refine hK _ _ ?_
                      clear hK K
                      refine wpAny_ready (rs := [5]) (by kernel_rfl) (by simp) ?_
                      refine AllReady.cons rfl (fun K hK => ?_) AllReady.nil
                      rw [if_pos (by simp [Region.wanted])]
                      refine wp_load_row 43 (.tmp 7) rfl w.heap.size (by go_simp) t2 L (0, 0) _ hg6 Try.underlying43 rfl (by rw [hszL.out]; exact size36) ?_
                      refine hK _ _ ?_
                      clear hK K
                      refine wpAny_ready (rs := [6]) (by kernel_rfl) (by simp) ?_
                      refine AllReady.cons rfl (fun K hK => ?_) AllReady.nil
                      go_simp
                      refine hK _ _ ?_
                      clear hK K
                      refine wpAny_done (by kernel_rfl) ?_ _
                      have c8f := (HB6.out.cell (World.block_lt_of_cell? _ _ c8w)).trans c8w
                      go_wp2
                      go_ret3
                      exact ⟨_, rfl, Kd.R_nil _ _ _ _ _, Or.inl rfl, below_step (below_step hB.out HB2.out) (below_step ((Below.refl _ _).drew) HB6.out)⟩
                    · rw [if_pos (by simp [Region.wanted])]
                      refine wp_load_row 43 (.tmp 7) rfl w.heap.size (by go_simp) t2 L (0, 0) _ hg2 Try.underlying43 rfl (by rw [hszL.out]; exact size36) ?_
                      refine hK _ _ ?_
                      clear hK K
                      refine wpAny_ready (rs := [4]) (by kernel_rfl) (by simp) ?_
                      refine AllReady.cons rfl (fun K hK => ?_) AllReady.nil
                      go_simp
                      go_at_call 21
                      refine (laid_calls k s2 a0 (rd l1 8) Av cv (cut l1) _ (Kd.C_below (Kd.R_reads' HO.out.1).2.2 (pw_below_drewN (Below.refl _ _) 1)) (Kd.R_reads' HO.out.1).2.1 HCL.out HS2.out).mono ?_
                      rintro e w6 ⟨he6, hb6⟩
                      rw [← HPP.out, ← HPB.out] at he6
                      subst he6
                      have HB6 := Aside0.mk hb6
                      clear hb6
                      go_simp
                      refine hK _ _ ?_
                      clear hK K
                      refine wpAny_ready (rs := [6]) (by kernel_rfl) (by simp) ?_
                      refine AllReady.cons rfl (fun K hK => ?_) AllReady.nil
                      go_simp
                      refine hK _ _ ?_
                      clear hK K
                      refine wpAny_done (by kernel_rfl) ?_ _
                      have c8f := (HB6.out.cell (World.block_lt_of_cell? _ _ c8w)).trans c8w
                      go_wp2
                      go_ret3
                      exact ⟨_, rfl, Kd.R_nil _ _ _ _ _, Or.inl rfl, below_step (below_step hB.out HB2.out) (below_step ((Below.refl _ _).drew) HB6.out)⟩
                  · rw [if_pos (by simp [Region.wanted])]
                    refine wp_load_row 43 (.tmp 7) rfl w.heap.size (by go_simp) t2 L (0, 0) _ hg2 Try.underlying43 rfl (by rw [hszL.out]; exact size36) ?_
                    refine hK _ _ ?_
                    clear hK K
                    refine wpAny_ready (rs := [2]) (by kernel_rfl) (by simp) ?_
                    refine AllReady.cons rfl (fun K hK => ?_) AllReady.nil
                    go_simp
                    refine hK _ _ ?_
                    clear hK K
                    refine wpAny_ready (rs := [4]) (by kernel_rfl) (by simp) ?_
                    refine AllReady.cons rfl (fun K hK => ?_) AllReady.nil
                    go_simp
                    go_at_call 21
                    refine (laid_calls k s2 a0 (rd l1 8) Av cv (cut l1) _ (Kd.C_below (Kd.R_reads' HO.out.1).2.2 (pw_below_drewN (Below.refl _ _) 1)) (Kd.R_reads' HO.out.1).2.1 HCL.out HS2.out).mono ?_
                    rintro e w6 ⟨he6, hb6⟩
                    rw [← HPP.out, ← HPB.out] at he6
                    subst he6
                    have HB6 := Aside0.mk hb6
                    clear hb6
                    go_simp
                    refine hK _ _ ?_
                    clear hK K
                    refine wpAny_ready (rs := [6]) (by kernel_rfl) (by simp) ?_
                    refine AllReady.cons rfl (fun K hK => ?_) AllReady.nil
                    go_simp
                    refine hK _ _ ?_
                    clear hK K
                    refine wpAny_done (by kernel_rfl) ?_ _
                    have c8f := (HB6.out.cell (World.block_lt_of_cell? _ _ c8w)).trans c8w
                    go_wp2
                    go_ret3
                    exact ⟨_, rfl, Kd.R_nil _ _ _ _ _, Or.inl rfl, below_step (below_step hB.out HB2.out) (below_step ((Below.refl _ _).drew) HB6.out)⟩
              · rw [if_neg ct0] at h
                exact absurd h (by simp)
end Go.Proofs.Ytkecgmoaojklbaa.PAll
