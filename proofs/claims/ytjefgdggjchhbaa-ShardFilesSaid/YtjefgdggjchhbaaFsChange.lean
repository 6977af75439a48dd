/- simfs.FS.change, walked by hand: bytes are put behind the file's. Conditions: the disk and the bytes lie in memory as told, and are few enough. -/
import Derived.Test.YtjefgdggjchhbaaFsDo
set_option linter.unusedVariables false
set_option linter.unusedSimpArgs false
namespace Go.Proofs.Ytjefgdggjchhbaa.PAll
open Go.RowKit Go.Proofs.YtjefgdggjchhbaaVW.PrintWords Go.Proofs.YtjefgdggjchhbaaVW.PrintLast Go.Proofs.YtjefgdggjchhbaaVW.PrintMore
attribute [local go_sem] max2_int min2_int max_two min_two
set_option maxHeartbeats 8000000
set_option maxRecDepth 100000
theorem info95 : (Try.prog.info? 95).map (fun i => (i.zero, i.size, i.bytes)) = some (some (.agg #[.bool false, .int .i64 0, .slice none 0 0]), 3, 40) := by kernel_rfl
theorem fst87 : FsT 87 := .inr (.inl rfl)
theorem fst46 : FsT 46 := .inl rfl
theorem FsKept.row {α : Type} {d : Kd α} {w0 w w' : World} {base : Nat} {ok : Nat → Prop} {v : Value} {xs : List α} (h : FsKept w0 w) (hr : d.R 95 w base ok v xs) (hg : w.grownBy w' v.ownBlock) : FsKept w0 w' :=
  h.grown hg (fun k hk => by
    obtain ⟨cells, hc⟩ := Kd.R_typed hr k hk
    exact ⟨cells, 95, hc, .inr (.inr rfl)⟩)
theorem change_on {w : World} {B g : Nat} {room used : Int} {F : List Int} {m mf ms mn x : Nat} {rowf : Value} {acts : Int} {sure now row : Value} {rows : List (List Value)} {A : Option Addr} {D : List Int} {cD : Nat} (H : Dk w B g room used F m mf ms mn x rowf acts sure now row rows) (hB : B ≤ w.heap.size)
    (hD : Kd.C (Kd.int .u8) w A D.length D) (hl : F.length + D.length ≤ 4194304) (hm : m ≤ 100000) :
    Calls Try.prog 62 #[.pointer (some ⟨g, 0, none⟩), .pointer (some ⟨x, 0, none⟩), .agg #[.bool false, .int .i64 (F.length : Int), .slice A D.length cD]] w fun e w' => e = .returned (.int .i64 0) ∧ Disk w' B g room (F ++ D) (m + 1) ∧ Below B w w' ∧ FsKept w w' := by
  obtain ⟨G, hG⟩ : ∃ G, G = F ++ D := ⟨_, rfl⟩
  have HG := Aside0.mk hG
  rw [← hG]
  clear hG
  obtain ⟨A2, c2, rfl⟩ := Kd.R_slice H.own
  obtain ⟨Ar, cr, rfl⟩ := Kd.R_slice H.rws
  have RB := Aside0.mk (show some w.heap.size ≠ (Value.slice Ar rows.length cr).ownBlock from fun e => by have := Kd.R_lt H.rws _ e.symm; omega)
  have RL := Aside0.mk H.len
  have HD := Aside0.mk hD
  have HL := Aside0.mk hl
  have HM := Aside0.mk hm
  have HBs := Aside0.mk hB
  have GX := Aside0.mk H.gx
  have b0 := Aside0.mk (heap_alloc_new w (.cells #[.bool false, .int .i64 (F.length : Int), .slice A D.length cD] 95))
  have H1 := Aside0.mk (H.below (below_alloc (Below.refl _ _) (.cells #[.bool false, .int .i64 (F.length : Int), .slice A D.length cD] 95)))
  have K1 := Aside0.mk ((FsKept.refl w).alloc (.cells #[.bool false, .int .i64 (F.length : Int), .slice A D.length cD] 95))
  have L1 := Aside0.mk ((Below.refl B w).alloc hB (.cells #[.bool false, .int .i64 (F.length : Int), .slice A D.length cD] 95))
  have D1 := Aside0.mk (Kd.C_alloc hD (.cells #[.bool false, .int .i64 (F.length : Int), .slice A D.length cD] 95))
  clear H hD hl hm hB
  go_enter Try.func62, Try.ntmps62
  go_wp2
  generalize hq : w.heap.size = b at b0 RB ⊢
  generalize w.alloc (.cells #[.bool false, .int .i64 (F.length : Int), .slice A D.length cD] 95) = w1 at b0 H1 K1 L1 D1 ⊢
  refine start_ (n := 10) (S := fun w' => w'.cell? ⟨b, 0, none⟩ = some (.bool false) ∧ w'.cell? ⟨b, 1, none⟩ = some (.int .i64 (F.length : Int)) ∧ w'.cell? ⟨b, 2, none⟩ = some (.slice A D.length cD) ∧ w'.cell? ⟨x, 1, none⟩ = some (.slice A2 F.length c2)) (ds := [9]) #[false, false, false, false, false, false, false, false, false, false] (by kernel_rfl) rfl rfl ⟨(blk_cell b0.out 0).trans rfl, (blk_cell b0.out 1).trans rfl, (blk_cell b0.out 2).trans rfl, H1.out.fl.c1⟩ (fun hHeld => ?_)
  have H2 := Aside0.mk H1.out.drew
  have b2 := Aside0.mk (blk_drew b0.out)
  have K2 := Aside0.mk K1.out.drew
  have L2 := Aside0.mk L1.out.drew
  have D2 := Aside0.mk (Kd.C_drew D1.out)
  have W2 := Aside0.mk (show w.heap.size ≤ w1.drew.heap.size from L1.out.size)
  generalize w1.drew = w2 at H2 b2 K2 L2 D2 W2 hHeld ⊢
  refine pure_ (i := 0) (N := some 7) (v := ?_) (a' := ?_) #[true, false, false, false, false, false, false, false, false, false] rfl rfl (by kernel_rfl) (fun _ _ _ h => h) (Or.inl ⟨by rfl, ?_⟩) ?_ ?_
  rotate_left
  · intro w'
    go_simp
    with_reducible rfl
  rotate_left
  · simp only [Act.put, List.setIfInBounds_toArray, List.set_cons_zero, List.set_cons_succ, i64_w, i32_w]
    rfl
  refine pure_ (i := 2) (N := some 9) (v := ?_) (a' := ?_) #[true, false, true, false, false, false, false, false, false, false] rfl rfl (by kernel_rfl) (fun _ _ _ h => h) (Or.inl ⟨by rfl, ?_⟩) ?_ ?_
  rotate_left
  · intro w'
    go_simp
    with_reducible rfl
  rotate_left
  · simp only [Act.put, List.setIfInBounds_toArray, List.set_cons_zero, List.set_cons_succ, i64_w, i32_w]
    rfl
  refine pure_ (i := 3) (N := some 10) (v := ?_) (a' := ?_) #[true, false, true, true, false, false, false, false, false, false] rfl rfl (by kernel_rfl) (fun _ _ _ h => h) (Or.inl ⟨by rfl, ?_⟩) ?_ ?_
  rotate_left
  · intro w'
    go_simp
    with_reducible rfl
  rotate_left
  · simp only [Act.put, List.setIfInBounds_toArray, List.set_cons_zero, List.set_cons_succ, i64_w, i32_w]
    rfl
  refine pure_ (i := 4) (N := some 11) (v := ?_) (a' := ?_) #[true, false, true, true, true, false, false, false, false, false] rfl rfl (by kernel_rfl) (fun _ _ _ h => h) (Or.inl ⟨by rfl, ?_⟩) ?_ ?_
  rotate_left
  · intro w'
    go_simp
    with_reducible rfl
  rotate_left
  · simp only [Act.put, List.setIfInBounds_toArray, List.set_cons_zero, List.set_cons_succ, i64_w, i32_w]
    rfl
  refine take_ (i := 1) (N := some 8) (v := ?_) (a' := ?_) #[true, true, true, true, true, false, false, false, false, false] rfl rfl (by kernel_rfl) (fun _ _ _ h => h) (Or.inl ⟨by rfl, ?_⟩) hHeld ?_ ?_
  rotate_left
  · rintro w' ⟨s0, s1, s2, s3⟩
    go_simp
    with_reducible rfl
  rotate_left
  · simp only [Act.put, List.setIfInBounds_toArray, List.set_cons_zero, List.set_cons_succ, i64_w, i32_w]
    rfl
  refine take_ (i := 5) (N := some 12) (v := ?_) (a' := ?_) #[true, true, true, true, true, true, false, false, false, false] rfl rfl (by kernel_rfl) (fun _ _ _ h => h) (Or.inl ⟨by rfl, ?_⟩) hHeld ?_ ?_
  rotate_left
  · rintro w' ⟨s0, s1, s2, s3⟩
    go_simp
    with_reducible rfl
  rotate_left
  · simp only [Act.put, List.setIfInBounds_toArray, List.set_cons_zero, List.set_cons_succ, i64_w, i32_w]
    rfl
  refine one_ (i := 6) (N := some 13) #[true, true, true, true, true, true, true, false, false, false] rfl rfl (by kernel_rfl) (by decide) (fun K hK => ?_)
  refine goes_ Try.func71 (by kernel_rfl) rfl #[.agg #[.bool false, .int .i64 (F.length : Int), .slice A D.length cD], .slice A2 F.length c2] (by rfl) rfl rfl (by simp only [List.map_toArray, List.map_cons, List.map_nil]; rfl) ?_
  with_reducible refine (do_on D2.out (Kd.R_reads' H2.out.own).2.2 HL.out).mono ?_
  rintro e w3 ⟨v, rfl, ho, hb⟩
  refine ⟨_, rfl, ?_⟩
  rw [← HG.out] at ho
  have H3 := Aside0.mk (H2.out.below hb)
  have b3 := Aside0.mk (blk_below b2.out hb)
  have K3 := Aside0.mk (K2.out.trans (.below hb))
  have L3 := Aside0.mk (L2.out.trans (hb.mono (Nat.le_trans HBs.out W2.out)))
  have V3 := Aside0.mk (Kd.R_lower ho (Nat.le_trans HBs.out W2.out))
  obtain ⟨A3, c3, ev⟩ := Kd.R_slice ho
  subst ev
  clear ho hb
  have cz := H3.out.fl.c1
  have fz := H3.out.fl.fr 1
  refine hK.out _ _ ⟨(blk_cell b3.out 0).trans rfl, (blk_cell b3.out 1).trans rfl, (blk_cell b3.out 2).trans rfl, H3.out.fl.c1⟩ (fun hHeld => ?_)
  clear hK K
  refine norm_ (a' := ?_) ?_ ?_
  rotate_left
  · show Act.put _ (some 13) _ = _
    simp only [Act.put, List.setIfInBounds_toArray, List.set_cons_zero, List.set_cons_succ, i64_w, i32_w]
    rfl
  refine pure_ (i := 7) (N := some 14) (v := ?_) (a' := ?_) #[true, true, true, true, true, true, true, true, false, false] rfl rfl (by kernel_rfl) (fun _ _ _ h => h) (Or.inl ⟨by rfl, ?_⟩) ?_ ?_
  rotate_left
  · intro w'
    go_simp
    with_reducible rfl
  rotate_left
  · simp only [Act.put, List.setIfInBounds_toArray, List.set_cons_zero, List.set_cons_succ, i64_w, i32_w]
    rfl
  refine pure_ (i := 8) (N := some 15) (v := ?_) (a' := ?_) #[true, true, true, true, true, true, true, true, true, false] rfl rfl (by kernel_rfl) (fun _ _ _ h => h) (Or.inl ⟨by rfl, ?_⟩) ?_ ?_
  rotate_left
  · intro w'
    go_simp
    with_reducible rfl
  rotate_left
  · simp only [Act.put, List.setIfInBounds_toArray, List.set_cons_zero, List.set_cons_succ, i64_w, i32_w]
    rfl
  refine last_ (i := 9) (N := none) #[true, true, true, true, true, true, true, true, true, true] rfl rfl (by kernel_rfl) (by decide) (fun K hK => ?_)
  refine skip_ (w1 := ?_) (by rfl) rfl ?_ ?_
  rotate_left
  · go_simp
    rfl
  refine hK.out _ _ ?_
  clear hK K
  refine done_ (by kernel_rfl) ?_
  have H4 := Aside0.mk (H3.out.now_ V3.out)
  have b4 := Aside0.mk (blk_far b3.out (p := ⟨x, 1, none⟩) (blk_ne b3.out H3.out.fl (by decide)) (.slice A3 G.length c3))
  have K4 := Aside0.mk (K3.out.set H3.out.fl fst87 1 (.slice A3 G.length c3))
  have L4 := Aside0.mk (L3.out.setCell (p := ⟨x, 1, none⟩) H3.out.hx (.slice A3 G.length c3))
  generalize w3.setCell ⟨x, 1, none⟩ (.slice A3 G.length c3) = w4 at H4 b4 K4 L4 ⊢
  clear cz fz hHeld H3 b3 K3 L3 V3 H2 b2 K2 L2 D2 W2 H1 b0 K1 L1 D1
  go_wp2
  refine start_ (n := 11) (S := fun w' => w'.cell? ⟨b, 0, none⟩ = some (.bool false) ∧ w'.cell? ⟨b, 1, none⟩ = some (.int .i64 (F.length : Int)) ∧ w'.cell? ⟨b, 2, none⟩ = some (.slice A D.length cD) ∧ w'.cell? ⟨x, 2, none⟩ = some (.slice Ar rows.length cr)) (ds := [10]) #[false, false, false, false, false, false, false, false, false, false, false] (by kernel_rfl) rfl rfl ⟨(blk_cell b4.out 0).trans rfl, (blk_cell b4.out 1).trans rfl, (blk_cell b4.out 2).trans rfl, H4.out.fl.c2⟩ (fun hHeld => ?_)
  have H5 := Aside0.mk H4.out.drew
  have b5 := Aside0.mk (blk_drew b4.out)
  have K5 := Aside0.mk K4.out.drew
  have L5 := Aside0.mk L4.out.drew
  have HB5 := Aside0.mk (show B ≤ w4.drew.heap.size from Nat.le_trans HBs.out L4.out.size)
  generalize w4.drew = w5 at H5 b5 K5 L5 HB5 hHeld ⊢
  refine pure_ (i := 0) (N := some 16) (v := ?_) (a' := ?_) #[true, false, false, false, false, false, false, false, false, false, false] rfl rfl (by kernel_rfl) (fun _ _ _ h => h) (Or.inl ⟨by rfl, ?_⟩) ?_ ?_
  rotate_left
  · intro w'
    go_simp
    with_reducible rfl
  rotate_left
  · simp only [Act.put, List.setIfInBounds_toArray, List.set_cons_zero, List.set_cons_succ, i64_w, i32_w]
    rfl
  refine pure_ (i := 1) (N := some 17) (v := ?_) (a' := ?_) #[true, true, false, false, false, false, false, false, false, false, false] rfl rfl (by kernel_rfl) (fun _ _ _ h => h) (Or.inl ⟨by rfl, ?_⟩) ?_ ?_
  rotate_left
  · intro w'
    go_simp
    with_reducible rfl
  rotate_left
  · simp only [Act.put, List.setIfInBounds_toArray, List.set_cons_zero, List.set_cons_succ, i64_w, i32_w]
    rfl
  refine pure_ (i := 2) (N := some 18) (v := ?_) (a' := ?_) #[true, true, true, false, false, false, false, false, false, false, false] rfl rfl (by kernel_rfl) (fun _ _ _ h => h) (Or.inl ⟨by rfl, ?_⟩) ?_ ?_
  rotate_left
  · intro w'
    go_simp
    with_reducible rfl
  rotate_left
  · simp only [Act.put, List.setIfInBounds_toArray, List.set_cons_zero, List.set_cons_succ, i64_w, i32_w]
    rfl
  refine pure_ (i := 3) (N := some 19) (v := ?_) (a' := ?_) #[true, true, true, true, false, false, false, false, false, false, false] rfl rfl (by kernel_rfl) (fun _ _ _ h => h) (Or.inl ⟨by rfl, ?_⟩) ?_ ?_
  rotate_left
  · intro w'
    go_simp
    with_reducible rfl
  rotate_left
  · simp only [Act.put, List.setIfInBounds_toArray, List.set_cons_zero, List.set_cons_succ, i64_w, i32_w]
    rfl
  refine take_ (i := 4) (N := some 20) (v := ?_) (a' := ?_) #[true, true, true, true, true, false, false, false, false, false, false] rfl rfl (by kernel_rfl) (fun _ _ _ h => h) (Or.inl ⟨by rfl, ?_⟩) hHeld ?_ ?_
  rotate_left
  · rintro w' ⟨s0, s1, s2, s3⟩
    go_simp
    with_reducible rfl
  rotate_left
  · simp only [Act.put, List.setIfInBounds_toArray, List.set_cons_zero, List.set_cons_succ, i64_w, i32_w]
    rfl
  refine take_ (i := 5) (N := some 21) (v := ?_) (a' := ?_) #[true, true, true, true, true, true, false, false, false, false, false] rfl rfl (by kernel_rfl) (fun _ _ _ h => h) (Or.inl ⟨by rfl, ?_⟩) hHeld ?_ ?_
  rotate_left
  · rintro w' ⟨s0, s1, s2, s3⟩
    go_simp
    with_reducible rfl
  rotate_left
  · simp only [Act.put, List.setIfInBounds_toArray, List.set_cons_zero, List.set_cons_succ, i64_w, i32_w]
    rfl
  refine one_ (i := 6) (N := some 22) #[true, true, true, true, true, true, true, false, false, false, false] rfl rfl (by kernel_rfl) (by decide) (fun K hK => ?_)
  refine value_ (w1 := ?_) (v := ?_) (by rfl) rfl ?_ ?_
  rotate_left 2
  · go_simp
    constructor
    · rfl
    · rfl
  refine hK.out _ _ ⟨(blk_cell (blk_alloc b5.out _) 0).trans rfl, (blk_cell (blk_alloc b5.out _) 1).trans rfl, (blk_cell (blk_alloc b5.out _) 2).trans rfl, (H5.out.fl.alloc _).c2⟩ (fun hHeld => ?_)
  clear hK K
  refine norm_ (a' := ?_) ?_ ?_
  rotate_left
  · show Act.put _ (some 22) _ = _
    simp only [Act.put, List.setIfInBounds_toArray, List.set_cons_zero, List.set_cons_succ, i64_w, i32_w]
    rfl
  refine one_ (i := 7) (N := some 23) #[true, true, true, true, true, true, true, true, false, false, false] rfl rfl (by kernel_rfl) (by decide) (fun K hK => ?_)
  refine Kd.R_append_step (raw 3) B (by rfl) (.tmp 20) (.tmp 22) 85 95 (.agg #[.bool false, .int .i64 0, .slice none 0 0]) 40 rfl Try.underlying85 info95 rfl (by decide) (by omega) (.slice Ar rows.length cr) rows [.bool false, .int .i64 (F.length : Int), .slice A D.length cD] [.bool false, .int .i64 (F.length : Int), .slice A D.length cD] (fun _ => True) (fun _ => False) rfl rfl ⟨rfl, rfl, by intro u hu; simp at hu; rcases hu with rfl | rfl | rfl <;> rfl⟩ (fun _ hk => hk.elim) (fun _ _ => trivial) H5.out.rws L5.out HB5.out (by have := RL.out; have := HM.out; omega) ?_
  intro v6 w6 ho hb hg hat
  obtain ⟨Rs, hRs⟩ : ∃ Rs, Rs = rows ++ [[.bool false, .int .i64 (F.length : Int), .slice A D.length cD]] := ⟨_, rfl⟩
  have hrl : Rs.length ≤ m + 1 := by have := RL.out; rw [hRs]; simp; omega
  rw [← hRs] at ho
  clear hRs
  obtain ⟨A6, c6, e6⟩ := Kd.R_slice ho
  subst e6
  have H6 := Aside0.mk (H5.out.grown hg ho (m' := m + 1) hrl)
  have K6 := Aside0.mk (K5.out.row H5.out.rws hg)
  have F6 := Aside0.mk (show Fileb w6 x sure _ _ from blk_grown H5.out.fl hg (Kd.R_ne H5.out.rws H5.out.fl (by decide)))
  have b6 := Aside0.mk (blk_grown b5.out hg RB.out)
  have L6 := Aside0.mk hb
  have cz := F6.out.c2
  have fz := F6.out.fr 2
  clear ho hb hg hat
  refine hK.out _ _ ⟨(blk_cell b6.out 0).trans rfl, (blk_cell b6.out 1).trans rfl, (blk_cell b6.out 2).trans rfl, F6.out.c2⟩ (fun hHeld => ?_)
  clear hK K
  refine norm_ (a' := ?_) ?_ ?_
  rotate_left
  · show Act.put _ (some 23) _ = _
    simp only [Act.put, List.setIfInBounds_toArray, List.set_cons_zero, List.set_cons_succ, i64_w, i32_w]
    rfl
  refine pure_ (i := 8) (N := some 24) (v := ?_) (a' := ?_) #[true, true, true, true, true, true, true, true, true, false, false] rfl rfl (by kernel_rfl) (fun _ _ _ h => h) (Or.inl ⟨by rfl, ?_⟩) ?_ ?_
  rotate_left
  · intro w'
    go_simp
    with_reducible rfl
  rotate_left
  · simp only [Act.put, List.setIfInBounds_toArray, List.set_cons_zero, List.set_cons_succ, i64_w, i32_w]
    rfl
  refine pure_ (i := 9) (N := some 25) (v := ?_) (a' := ?_) #[true, true, true, true, true, true, true, true, true, true, false] rfl rfl (by kernel_rfl) (fun _ _ _ h => h) (Or.inl ⟨by rfl, ?_⟩) ?_ ?_
  rotate_left
  · intro w'
    go_simp
    with_reducible rfl
  rotate_left
  · simp only [Act.put, List.setIfInBounds_toArray, List.set_cons_zero, List.set_cons_succ, i64_w, i32_w]
    rfl
  refine last_ (i := 10) (N := none) #[true, true, true, true, true, true, true, true, true, true, true] rfl rfl (by kernel_rfl) (by decide) (fun K hK => ?_)
  refine skip_ (w1 := ?_) (by rfl) rfl ?_ ?_
  rotate_left
  · go_simp
    rfl
  refine hK.out _ _ ?_
  clear hK K
  refine done_ (by kernel_rfl) ?_
  have K7 := Aside0.mk (K6.out.set F6.out fst87 2 (.slice A6 Rs.length c6))
  have L7 := Aside0.mk (L6.out.setCell (p := ⟨x, 2, none⟩) H5.out.hx (.slice A6 Rs.length c6))
  have GL := Aside0.mk (show G.length < 9223372036854775808 by have := HL.out; rw [HG.out, List.length_append]; omega)
  have HB7 := Aside0.mk (Nat.le_trans HBs.out L7.out.size)
  generalize w6.setCell ⟨x, 2, none⟩ (.slice A6 Rs.length c6) = w7 at H6 K7 L7 HB7 ⊢
  clear cz fz K6 F6 b6 L6 H5 b5 K5 L5 HB5 H4 b4 K4 L4
  go_wp2_with (first
    | (go_at_call 72; (with_reducible refine (count_on H6.out.fs H6.out.seen H6.out.files H6.out.fl GL.out).mono ?_); rintro e w8 ⟨rfl, hf, ht⟩; have H8 := Aside0.mk (H6.out.disk ht hf); have K8 := Aside0.mk (K7.out.trans (ht.fs H6.out.fs fst46)); have L8 := Aside0.mk (L7.out.trans (ht.2.mono H6.out.hg)); clear hf ht)
    | (go_at_call 73; (with_reducible refine (end_on H8.out.fs).mono ?_); rintro e w9 ⟨rfl, hf, ht⟩; have H9 := Aside0.mk (H8.out.disk ht hf); have K9 := Aside0.mk (K8.out.trans (ht.fs H8.out.fs fst46)); have L9 := Aside0.mk (L8.out.trans (ht.2.mono H8.out.hg)); clear hf ht))
  go_ret
  exact ⟨rfl, H9.out.to, L9.out, K9.out⟩
end Go.Proofs.Ytjefgdggjchhbaa.PAll
