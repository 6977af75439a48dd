/- simfs.isName, FS.turn, FS.Create, walked by hand. Conditions: the disk lies in memory as told, and has no file. -/
import Derived.Test.YtjefgdggjchhbaaFsNew
import Derived.Laws.IdiomStrings
set_option linter.unusedVariables false
set_option linter.unusedSimpArgs false
namespace Go.Proofs.Ytjefgdggjchhbaa.PAll
open Go.RowKit Go.Proofs.YtjefgdggjchhbaaVW.PrintWords Go.Proofs.YtjefgdggjchhbaaVW.PrintLast Go.Proofs.YtjefgdggjchhbaaVW.PrintMore
attribute [local go_sem] max2_int min2_int max_two min_two
set_option maxHeartbeats 8000000
set_option maxRecDepth 100000
theorem name_bytes (w : World) : ∃ (r kc : Nat) (w1 : World), (convert 9 22 (.string nameS)).run Try.prog w = .ok (.slice (some ⟨r, 0, none⟩) 1 kc) w1 ∧ w1.cell? ⟨r, 0, none⟩ = some (.int .u8 115) ∧ Below w.heap.size w w1 := by
  refine ⟨_, _, _, run_bytes_of_string (P := Try.prog) w 9 22 5 nameS Try.underlying9 Try.underlying22 Try.underlying5, ?_, below_alloc (below_drew1 (Below.refl _ _)) _⟩
  rw [show w.heap.size = w.drew.heap.size from rfl, cell_of_row _ _ 0 _ 5 _ (heap_alloc_new w.drew _)]
  simp [bytesRow, nameS, Array.getElem?_append]
theorem isname_on (w : World) : Calls Try.prog 63 #[.string nameS] w fun e w' => e = .returned (.bool true) ∧ Below w.heap.size w w' := by
  have HB := Aside0.mk (Below.refl w.heap.size w)
  obtain ⟨r, kc, w1, hcv, hc, hb⟩ := name_bytes w
  have HB1 := Aside0.mk hb
  have hsz : nameS.size = 1 := rfl
  clear hb
  go_enter Try.func63, Try.ntmps63
  go_wp2
  refine wp_loop_rounds 2 ?_
  rw [rounds_succ]
  go_wp2
  try rw [rounds_succ]
  try go_wp2
  go_ret
  exact ⟨rfl, HB1.out⟩
theorem info100 : (Try.prog.info? 100).map (fun i => (i.zero, i.size, i.bytes)) = some (some (.agg #[.int .i64 0, .string ⟨#[]⟩, .string ⟨#[]⟩, .int .i64 0]), 4, 48) := by kernel_rfl
/-- A disk whose first file is laid: its directory is es. -/
structure Tk (w : World) (B g : Nat) (room : Int) (mf ms mn x : Nat) (rowf : Value) (acts : Int) (es : Array MapEntry) (ck : Nat) : Prop where
  fs : Fsb w g room 0 mf 1 ms mn rowf acts
  seen : w.heap[mn]? = some (.map es ck)
  files : w.heap[mf]? = some (.map (fileOne x) 1)
  fl : Fileb w x (.slice none 0 0) (.slice none 0 0) (.slice none 0 0)
  hg : B ≤ g
  hx : B ≤ x
  hn : B ≤ mn
  ne : mf ≠ mn
section
variable {w w' : World} {B g : Nat} {room : Int} {mf ms mn x : Nat} {rowf : Value} {acts : Int} {es : Array MapEntry} {ck : Nat}
theorem Tk.below (h : Tk w B g room mf ms mn x rowf acts es ck) (hb : Below w.heap.size w w') : Tk w' B g room mf ms mn x rowf acts es ck :=
  ⟨h.fs.below hb, blk_below h.seen hb, blk_below h.files hb, h.fl.below hb, h.hg, h.hx, h.hn, h.ne⟩
theorem Tk.named (h : Tk w B g room mf ms mn x rowf acts #[] 0) : Tk (mput w mn (.string nameS) (.int .i64 1)) B g room mf ms mn x rowf acts seenOne 1 :=
  ⟨(mput_far h.seen _ _ g (Ne.symm (map_ne_cells h.seen h.fs))).trans h.fs, mput_at h.seen _ _, (mput_far h.seen _ _ mf h.ne).trans h.files, (mput_far h.seen _ _ x (Ne.symm (map_ne_cells h.seen h.fl))).trans h.fl, h.hg, h.hx, h.hn, h.ne⟩
theorem Tk.rowed (h : Tk w B g room mf ms mn x rowf acts es ck) (u : Value) : Tk (w.setCell ⟨g, 7, none⟩ u) B g room mf ms mn x u acts es ck :=
  have ht := (Touch.refl w g).set 7 u
  ⟨h.fs.put7 u, ht.blk h.seen (map_ne_cells h.seen h.fs), ht.blk h.files (map_ne_cells h.files h.fs), ht.blk h.fl (blk_ne h.fl h.fs (by decide)), h.hg, h.hx, h.hn, h.ne⟩
theorem Tk.dk (h : Tk w B g room mf ms mn x rowf acts seenOne 1) : Dk w B g room 0 [] 0 mf ms mn x rowf acts (.slice none 0 0) (.slice none 0 0) (.slice none 0 0) [] :=
  ⟨h.fs, h.seen, h.files, h.fl, Kd.R_nil _ _ _ _ _, Kd.R_nil _ _ _ _ _, Nat.le_refl _, h.hg, h.hx⟩
end
theorem turn_on {w : World} {B g : Nat} {room : Int} {mf ms mn x : Nat} {acts : Int} (H : Tk w B g room mf ms mn x (.slice none 0 0) acts #[] 0) (hB : B ≤ w.heap.size) :
    Calls Try.prog 64 #[.pointer (some ⟨g, 0, none⟩), .agg #[.int .i64 0, .string ⟨#[]⟩, .string nameS, .int .i64 1]] w fun e w' => e = .returned (.int .i64 0) ∧ Disk w' B g room [] 0 ∧ Below B w w' ∧ FsKept w w' := by
  have HBs := Aside0.mk hB
  have b0 := Aside0.mk (heap_alloc_new w (.cells #[.int .i64 0, .string ⟨#[]⟩, .string nameS, .int .i64 1] 100))
  have H1 := Aside0.mk (H.below (below_alloc (Below.refl _ _) (.cells #[.int .i64 0, .string ⟨#[]⟩, .string nameS, .int .i64 1] 100)))
  have K1 := Aside0.mk ((FsKept.refl w).alloc (.cells #[.int .i64 0, .string ⟨#[]⟩, .string nameS, .int .i64 1] 100))
  have L1 := Aside0.mk ((Below.refl B w).alloc hB (.cells #[.int .i64 0, .string ⟨#[]⟩, .string nameS, .int .i64 1] 100))
  clear H hB
  go_enter Try.func64, Try.ntmps64
  go_wp2
  generalize hq : w.heap.size = b at b0 ⊢
  generalize w.alloc (.cells #[.int .i64 0, .string ⟨#[]⟩, .string nameS, .int .i64 1] 100) = w1 at b0 H1 K1 L1 ⊢
  refine start_ (n := 6) (S := fun w' => w'.cell? ⟨b, 0, none⟩ = some (.int .i64 0) ∧ w'.cell? ⟨b, 1, none⟩ = some (.string ⟨#[]⟩) ∧ w'.cell? ⟨b, 2, none⟩ = some (.string nameS) ∧ w'.cell? ⟨b, 3, none⟩ = some (.int .i64 1) ∧ w'.cell? ⟨g, 6, none⟩ = some (.map (some mn))) (ds := []) #[false, false, false, false, false, false] (by kernel_rfl) rfl rfl ⟨(blk_cell b0.out 0).trans rfl, (blk_cell b0.out 1).trans rfl, (blk_cell b0.out 2).trans rfl, (blk_cell b0.out 3).trans rfl, H1.out.fs.c6⟩ (fun hHeld => ?_)
  have H2 := Aside0.mk (H1.out.below (below_drew1 (Below.refl _ _)))
  have b2 := Aside0.mk (blk_drew b0.out)
  have K2 := Aside0.mk K1.out.drew
  have L2 := Aside0.mk L1.out.drew
  have W2 := Aside0.mk (show w.heap.size ≤ w1.drew.heap.size from L1.out.size)
  generalize w1.drew = w2 at H2 b2 K2 L2 W2 hHeld ⊢
  refine pure_ (i := 1) (N := some 6) (v := ?_) (a' := ?_) #[false, true, false, false, false, false] rfl rfl (by kernel_rfl) (fun _ _ _ h => h) (Or.inl ⟨by rfl, ?_⟩) ?_ ?_
  rotate_left
  · intro w'
    go_simp
    with_reducible rfl
  rotate_left
  · simp only [Act.put, List.setIfInBounds_toArray, List.set_cons_zero, List.set_cons_succ, i64_w, i32_w]
    rfl
  refine pure_ (i := 2) (N := some 7) (v := ?_) (a' := ?_) #[false, true, true, false, false, false] rfl rfl (by kernel_rfl) (fun _ _ _ h => h) (Or.inl ⟨by rfl, ?_⟩) ?_ ?_
  rotate_left
  · intro w'
    go_simp
    with_reducible rfl
  rotate_left
  · simp only [Act.put, List.setIfInBounds_toArray, List.set_cons_zero, List.set_cons_succ, i64_w, i32_w]
    rfl
  refine pure_ (i := 3) (N := some 8) (v := ?_) (a' := ?_) #[false, true, true, true, false, false] rfl rfl (by kernel_rfl) (fun _ _ _ h => h) (Or.inl ⟨by rfl, ?_⟩) ?_ ?_
  rotate_left
  · intro w'
    go_simp
    with_reducible rfl
  rotate_left
  · simp only [Act.put, List.setIfInBounds_toArray, List.set_cons_zero, List.set_cons_succ, i64_w, i32_w]
    rfl
  refine take_ (i := 0) (N := some 5) (v := ?_) (a' := ?_) #[true, true, true, true, false, false] rfl rfl (by kernel_rfl) (fun _ _ _ h => h) (Or.inl ⟨by rfl, ?_⟩) hHeld ?_ ?_
  rotate_left
  · rintro w' ⟨s0, s1, s2, s3, s4⟩
    go_simp
    with_reducible rfl
  rotate_left
  · simp only [Act.put, List.setIfInBounds_toArray, List.set_cons_zero, List.set_cons_succ, i64_w, i32_w]
    rfl
  refine take_ (i := 4) (N := some 9) (v := ?_) (a' := ?_) #[true, true, true, true, true, false] rfl rfl (by kernel_rfl) (fun _ _ _ h => h) (Or.inl ⟨by rfl, ?_⟩) hHeld ?_ ?_
  rotate_left
  · rintro w' ⟨s0, s1, s2, s3, s4⟩
    go_simp
    with_reducible rfl
  rotate_left
  · simp only [Act.put, List.setIfInBounds_toArray, List.set_cons_zero, List.set_cons_succ, i64_w, i32_w]
    rfl
  refine one_ (i := 5) (N := some 10) #[true, true, true, true, true, true] rfl rfl (by kernel_rfl) (by decide) (fun K hK => ?_)
  refine goes_ Try.func74 (by kernel_rfl) rfl #[.agg #[.int .i64 0, .string ⟨#[]⟩, .string nameS, .int .i64 1], .map (some mn)] (by rfl) rfl rfl (by simp only [List.map_toArray, List.map_cons, List.map_nil]; rfl) ?_
  with_reducible refine (mdo_on H2.out.seen).mono ?_
  rintro e w5 ⟨rfl, w4, hb, hs, rfl⟩
  refine ⟨_, rfl, ?_⟩
  have h3 := H2.out.below hb
  have b3 := Aside0.mk ((mput_far hs (.string nameS) (.int .i64 1) b (Ne.symm (map_ne_cells hs (blk_below b2.out hb)))).trans (blk_below b2.out hb))
  have H3 := Aside0.mk h3.named
  have K3 := Aside0.mk ((K2.out.trans (.below hb)).mput_ hs (.string nameS) (.int .i64 1))
  have L3 := Aside0.mk (mput_below (L2.out.trans (hb.mono (Nat.le_trans HBs.out W2.out))) H2.out.hn (.string nameS) (.int .i64 1))
  generalize mput w4 mn (.string nameS) (.int .i64 1) = w3 at b3 H3 K3 L3 ⊢
  clear h3 hs hb
  refine hK.out _ _ ⟨(blk_cell b3.out 0).trans rfl, (blk_cell b3.out 1).trans rfl, (blk_cell b3.out 2).trans rfl, (blk_cell b3.out 3).trans rfl, H3.out.fs.c6⟩ (fun hHeld => ?_)
  clear hK K
  refine norm_ (a' := ?_) ?_ ?_
  rotate_left
  · show Act.put _ (some 10) _ = _
    simp only [Act.put, List.setIfInBounds_toArray, List.set_cons_zero, List.set_cons_succ, i64_w, i32_w]
    rfl
  refine done_ (by kernel_rfl) ?_
  clear hHeld H2 b2 K2 L2 W2 H1 b0 K1 L1
  go_wp2
  refine start_ (n := 11) (S := fun w' => w'.cell? ⟨b, 0, none⟩ = some (.int .i64 0) ∧ w'.cell? ⟨b, 1, none⟩ = some (.string ⟨#[]⟩) ∧ w'.cell? ⟨b, 2, none⟩ = some (.string nameS) ∧ w'.cell? ⟨b, 3, none⟩ = some (.int .i64 1) ∧ w'.cell? ⟨g, 7, none⟩ = some (.slice none 0 0)) (ds := [10]) #[false, false, false, false, false, false, false, false, false, false, false] (by kernel_rfl) rfl rfl ⟨(blk_cell b3.out 0).trans rfl, (blk_cell b3.out 1).trans rfl, (blk_cell b3.out 2).trans rfl, (blk_cell b3.out 3).trans rfl, H3.out.fs.c7⟩ (fun hHeld => ?_)
  have H5 := Aside0.mk (H3.out.below (below_drew1 (Below.refl _ _)))
  have b5 := Aside0.mk (blk_drew b3.out)
  have K5 := Aside0.mk K3.out.drew
  have L5 := Aside0.mk L3.out.drew
  have HB5 := Aside0.mk (show B ≤ w3.drew.heap.size from Nat.le_trans HBs.out L3.out.size)
  generalize w3.drew = w5 at H5 b5 K5 L5 HB5 hHeld ⊢
  refine pure_ (i := 0) (N := some 11) (v := ?_) (a' := ?_) #[true, false, false, false, false, false, false, false, false, false, false] rfl rfl (by kernel_rfl) (fun _ _ _ h => h) (Or.inl ⟨by rfl, ?_⟩) ?_ ?_
  rotate_left
  · intro w'
    go_simp
    with_reducible rfl
  rotate_left
  · simp only [Act.put, List.setIfInBounds_toArray, List.set_cons_zero, List.set_cons_succ, i64_w, i32_w]
    rfl
  refine pure_ (i := 1) (N := some 12) (v := ?_) (a' := ?_) #[true, true, false, false, false, false, false, false, false, false, false] rfl rfl (by kernel_rfl) (fun _ _ _ h => h) (Or.inl ⟨by rfl, ?_⟩) ?_ ?_
  rotate_left
  · intro w'
    go_simp
    with_reducible rfl
  rotate_left
  · simp only [Act.put, List.setIfInBounds_toArray, List.set_cons_zero, List.set_cons_succ, i64_w, i32_w]
    rfl
  refine pure_ (i := 2) (N := some 13) (v := ?_) (a' := ?_) #[true, true, true, false, false, false, false, false, false, false, false] rfl rfl (by kernel_rfl) (fun _ _ _ h => h) (Or.inl ⟨by rfl, ?_⟩) ?_ ?_
  rotate_left
  · intro w'
    go_simp
    with_reducible rfl
  rotate_left
  · simp only [Act.put, List.setIfInBounds_toArray, List.set_cons_zero, List.set_cons_succ, i64_w, i32_w]
    rfl
  refine pure_ (i := 3) (N := some 14) (v := ?_) (a' := ?_) #[true, true, true, true, false, false, false, false, false, false, false] rfl rfl (by kernel_rfl) (fun _ _ _ h => h) (Or.inl ⟨by rfl, ?_⟩) ?_ ?_
  rotate_left
  · intro w'
    go_simp
    with_reducible rfl
  rotate_left
  · simp only [Act.put, List.setIfInBounds_toArray, List.set_cons_zero, List.set_cons_succ, i64_w, i32_w]
    rfl
  refine take_ (i := 4) (N := some 15) (v := ?_) (a' := ?_) #[true, true, true, true, true, false, false, false, false, false, false] rfl rfl (by kernel_rfl) (fun _ _ _ h => h) (Or.inl ⟨by rfl, ?_⟩) hHeld ?_ ?_
  rotate_left
  · rintro w' ⟨s0, s1, s2, s3, s4⟩
    go_simp
    with_reducible rfl
  rotate_left
  · simp only [Act.put, List.setIfInBounds_toArray, List.set_cons_zero, List.set_cons_succ, i64_w, i32_w]
    rfl
  refine take_ (i := 5) (N := some 16) (v := ?_) (a' := ?_) #[true, true, true, true, true, true, false, false, false, false, false] rfl rfl (by kernel_rfl) (fun _ _ _ h => h) (Or.inl ⟨by rfl, ?_⟩) hHeld ?_ ?_
  rotate_left
  · rintro w' ⟨s0, s1, s2, s3, s4⟩
    go_simp
    with_reducible rfl
  rotate_left
  · simp only [Act.put, List.setIfInBounds_toArray, List.set_cons_zero, List.set_cons_succ, i64_w, i32_w]
    rfl
  refine one_ (i := 6) (N := some 17) #[true, true, true, true, true, true, true, false, false, false, false] rfl rfl (by kernel_rfl) (by decide) (fun K hK => ?_)
  refine value_ (w1 := ?_) (v := ?_) (by rfl) rfl ?_ ?_
  rotate_left 2
  · go_simp
    constructor
    · rfl
    · rfl
  refine hK.out _ _ ⟨(blk_cell (blk_alloc b5.out _) 0).trans rfl, (blk_cell (blk_alloc b5.out _) 1).trans rfl, (blk_cell (blk_alloc b5.out _) 2).trans rfl, (blk_cell (blk_alloc b5.out _) 3).trans rfl, (H5.out.fs.alloc _).c7⟩ (fun hHeld => ?_)
  clear hK K
  refine norm_ (a' := ?_) ?_ ?_
  rotate_left
  · show Act.put _ (some 17) _ = _
    simp only [Act.put, List.setIfInBounds_toArray, List.set_cons_zero, List.set_cons_succ, i64_w, i32_w]
    rfl
  refine one_ (i := 7) (N := some 18) #[true, true, true, true, true, true, true, true, false, false, false] rfl rfl (by kernel_rfl) (by decide) (fun K hK => ?_)
  refine Kd.R_append_step (raw 4) B (by rfl) (.tmp 15) (.tmp 17) 44 100 (.agg #[.int .i64 0, .string ⟨#[]⟩, .string ⟨#[]⟩, .int .i64 0]) 48 rfl Try.underlying44 info100 rfl (by decide) (by omega) (.slice none 0 0) [] [.int .i64 0, .string ⟨#[]⟩, .string nameS, .int .i64 1] [.int .i64 0, .string ⟨#[]⟩, .string nameS, .int .i64 1] (fun _ => True) (fun _ => False) rfl rfl ⟨rfl, rfl, by intro u hu; simp at hu; rcases hu with rfl | rfl | rfl | rfl <;> rfl⟩ (fun _ hk => hk.elim) (fun _ _ => trivial) (Kd.R_nil (raw 4) 100 _ B (fun _ => True)) L5.out HB5.out (by simp) ?_
  intro v6 w6 ho hb hg hat
  generalize hRs : ([] : List (List Value)) ++ [[Value.int .i64 0, .string ⟨#[]⟩, .string nameS, .int .i64 1]] = Rs at ho
  clear hRs
  obtain ⟨A6, c6, e6⟩ := Kd.R_slice ho
  subst e6
  have hbw := Aside0.mk (show Below w5.heap.size w5 w6 from ⟨hg.os, hg.tape, hg.output, hg.size, fun k hk => hg.block k hk (by simp [Value.ownBlock])⟩)
  have H6 := Aside0.mk (H5.out.below hbw.out)
  have K6 := Aside0.mk (K5.out.trans (.below hbw.out))
  have b6 := Aside0.mk (blk_below b5.out hbw.out)
  have L6 := Aside0.mk hb
  have cz := H6.out.fs.c7
  have fz := H6.out.fs.fr 7
  clear ho hb hg hat
  refine hK.out _ _ ⟨(blk_cell b6.out 0).trans rfl, (blk_cell b6.out 1).trans rfl, (blk_cell b6.out 2).trans rfl, (blk_cell b6.out 3).trans rfl, H6.out.fs.c7⟩ (fun hHeld => ?_)
  clear hK K
  refine norm_ (a' := ?_) ?_ ?_
  rotate_left
  · show Act.put _ (some 18) _ = _
    simp only [Act.put, List.setIfInBounds_toArray, List.set_cons_zero, List.set_cons_succ, i64_w, i32_w]
    rfl
  refine pure_ (i := 8) (N := some 19) (v := ?_) (a' := ?_) #[true, true, true, true, true, true, true, true, true, false, false] rfl rfl (by kernel_rfl) (fun _ _ _ h => h) (Or.inl ⟨by rfl, ?_⟩) ?_ ?_
  rotate_left
  · intro w'
    go_simp
    with_reducible rfl
  rotate_left
  · simp only [Act.put, List.setIfInBounds_toArray, List.set_cons_zero, List.set_cons_succ, i64_w, i32_w]
    rfl
  refine pure_ (i := 9) (N := some 20) (v := ?_) (a' := ?_) #[true, true, true, true, true, true, true, true, true, true, false] rfl rfl (by kernel_rfl) (fun _ _ _ h => h) (Or.inl ⟨by rfl, ?_⟩) ?_ ?_
  rotate_left
  · intro w'
    go_simp
    with_reducible rfl
  rotate_left
  · simp only [Act.put, List.setIfInBounds_toArray, List.set_cons_zero, List.set_cons_succ, i64_w, i32_w]
    rfl
  refine last_ (i := 10) (N := none) #[true, true, true, true, true, true, true, true, true, true, true] rfl rfl (by kernel_rfl) (by decide) (fun K hK => ?_)
  refine skip_ (w1 := ?_) (by rfl) rfl ?_ ?_
  rotate_left
  · go_simp
    rfl
  refine hK.out _ _ ?_
  clear hK K
  refine done_ (by kernel_rfl) ?_
  have K7 := Aside0.mk (K6.out.set H6.out.fs fst46 7 (.slice A6 Rs.length c6))
  have L7 := Aside0.mk (L6.out.setCell (p := ⟨g, 7, none⟩) H6.out.hg (.slice A6 Rs.length c6))
  have H7 := Aside0.mk (H6.out.rowed (.slice A6 Rs.length c6)).dk
  have HB7 := Aside0.mk (Nat.le_trans HBs.out L7.out.size)
  generalize w6.setCell ⟨g, 7, none⟩ (.slice A6 Rs.length c6) = w7 at H7 K7 L7 HB7 ⊢
  clear cz fz K6 b6 L6 H6 H5 b5 K5 L5 HB5 H3 b3 K3 L3
  go_wp2_with (first
    | (go_at_call 72; (with_reducible refine (count_on H7.out.fs H7.out.seen H7.out.files H7.out.fl (by decide)).mono ?_); rintro e w8 ⟨rfl, hf, ht⟩; have H8 := Aside0.mk (H7.out.disk ht hf); have K8 := Aside0.mk (K7.out.trans (ht.fs H7.out.fs fst46)); have L8 := Aside0.mk (L7.out.trans (ht.2.mono H7.out.hg)); clear hf ht)
    | (go_at_call 73; (with_reducible refine (end_on H8.out.fs).mono ?_); rintro e w9 ⟨rfl, hf, ht⟩; have H9 := Aside0.mk (H8.out.disk ht hf); have K9 := Aside0.mk (K8.out.trans (ht.fs H8.out.fs fst46)); have L9 := Aside0.mk (L8.out.trans (ht.2.mono H8.out.hg)); clear hf ht))
  go_ret
  exact ⟨rfl, H9.out.to, L9.out, K9.out⟩
theorem mput_op {P : Program} {w w1 : World} {o : Oper} {a : Act} {t : TypeId} {m x v : Operand} {mv key val : Value} (hop : o.op = Op.mapUpdate t m x v) (hm : a.eval m = mv) (hx : a.eval x = key) (hv : a.eval v = val) (hrun : (Instr.mapUpdate t mv key val).run P w = .ok () w1) : (execOp a.eval o).run P w = .ok .skip w1 := by
  simp [execOp, hop, hm, hx, hv, hrun, Result.andThen]
theorem len_map0 {w : World} {mn : Nat} (hb : w.heap[mn]? = some (.map #[] 0)) : (Builtin.len_ #[43] 3 #[.map (some mn)]).run Try.prog w = .ok (.int .i64 0) w := by
  simp [Builtin.len_, run_underlying Try.underlying43, MapKept.run_getObj_map hb, goInt]
structure Nk (w : World) (B g : Nat) (room : Int) (mf ms mn : Nat) : Prop where
  fs : Fsb w g room 0 mf 1 ms mn (.slice none 0 0) 0
  seen : w.heap[mn]? = some (.map #[] 0)
  files : w.heap[mf]? = some (.map #[] 0)
  hg : B ≤ g
  hm : B ≤ mf
  hn : B ≤ mn
  ne : mf ≠ mn
theorem Nk.below {w w' : World} {B g : Nat} {room : Int} {mf ms mn : Nat} (h : Nk w B g room mf ms mn) (hb : Below w.heap.size w w') : Nk w' B g room mf ms mn := ⟨h.fs.below hb, blk_below h.seen hb, blk_below h.files hb, h.hg, h.hm, h.hn, h.ne⟩
theorem D0.nexted {w : World} {B g : Nat} {room : Int} {mf ms mn : Nat} (h : D0 w B g room mf ms mn) : Nk (w.setCell ⟨g, 4, none⟩ (.int .i64 1)) B g room mf ms mn :=
  have ht := (Touch.refl w g).set 4 (.int .i64 1)
  ⟨h.fs.put4 1, ht.blk h.seen (map_ne_cells h.seen h.fs), ht.blk h.files (map_ne_cells h.files h.fs), h.hg, h.hm, h.hn, h.ne⟩
theorem Nk.laid {w : World} {B g : Nat} {room : Int} {mf ms mn x : Nat} (h : Nk w B g room mf ms mn) (hx : Fileb w x (.slice none 0 0) (.slice none 0 0) (.slice none 0 0)) (hB : B ≤ x) : Tk (mput w mf (.int .i64 1) (.pointer (some ⟨x, 0, none⟩))) B g room mf ms mn x (.slice none 0 0) 0 #[] 0 :=
  ⟨(mput_far h.files _ _ g (Ne.symm (map_ne_cells h.files h.fs))).trans h.fs, (mput_far h.files _ _ mn (Ne.symm h.ne)).trans h.seen, mput_at h.files _ _, (mput_far h.files _ _ x (Ne.symm (map_ne_cells h.files hx))).trans hx, h.hg, hB, h.hn, h.ne⟩
theorem create_on {w : World} {B g : Nat} {room : Int} {mf ms mn : Nat} (H : D0 w B g room mf ms mn) (hB : B ≤ w.heap.size) :
    Calls Try.prog 46 #[.pointer (some ⟨g, 0, none⟩), .string nameS] w fun e w' => e = .returned (.int .i64 0) ∧ Disk w' B g room [] 0 ∧ Below B w w' ∧ FsKept w w' := by
  have HBs := Aside0.mk hB
  have H0 := Aside0.mk H
  clear H hB
  go_enter Try.func46, Try.ntmps46
  go_wp2_with (first
    | (go_at_call 50; (with_reducible refine (ready_on H0.out.fs).mono ?_); rintro e w1 ⟨rfl, hb⟩; have H1 := Aside0.mk (H0.out.below hb); have HB1 := Aside0.mk hb; clear hb)
    | (go_at_call 63; (with_reducible refine (isname_on w1).mono ?_); rintro e w2 ⟨rfl, hb⟩; have H2 := Aside0.mk (H1.out.below hb); have HB2 := Aside0.mk (below_step HB1.out hb); have c6 := H2.out.fs.c6; have c4 := H2.out.fs.c4; have f4 := H2.out.fs.fr 4; have hlen := len_map0 H2.out.seen; clear hb)
    | (at_lookup; refine wp_look rfl _ _ 43 true rfl (.map (some mn)) (.string nameS) _ rfl rfl (seen_none H2.out.seen) ?_))
  have H3 := Aside0.mk (H2.out.nexted)
  have L3 := Aside0.mk ((HB2.out.mono HBs.out).setCell (p := ⟨g, 4, none⟩) H2.out.hg (.int .i64 1))
  have K3 := Aside0.mk ((FsKept.below HB2.out).set H2.out.fs fst46 4 (.int .i64 1))
  have W3 := Aside0.mk (Nat.le_trans HBs.out L3.out.size)
  generalize w2.setCell ⟨g, 4, none⟩ (.int .i64 1) = w3 at H3 L3 K3 W3 ⊢
  clear c4 f4 c6 hlen
  refine start_ (n := 11) (S := fun w' => w'.cell? ⟨g, 3, none⟩ = some (.map (some mf)) ∧ w'.cell? ⟨g, 4, none⟩ = some (.int .i64 1)) (ds := [10]) #[false, false, false, false, false, false, false, false, false, false, false] (by kernel_rfl) rfl rfl ⟨H3.out.fs.c3, H3.out.fs.c4⟩ (fun hHeld => ?_)
  have H4 := Aside0.mk (H3.out.below (below_drew1 (Below.refl _ _)))
  have K4 := Aside0.mk K3.out.drew
  have L4 := Aside0.mk L3.out.drew
  have W4 := Aside0.mk (show B ≤ w3.drew.heap.size from W3.out)
  generalize w3.drew = w4 at H4 K4 L4 W4 hHeld ⊢
  refine pure_ (i := 0) (N := some 39) (v := ?_) (a' := ?_) #[true, false, false, false, false, false, false, false, false, false, false] rfl rfl (by kernel_rfl) (fun _ _ _ h => h) (Or.inl ⟨by rfl, ?_⟩) ?_ ?_
  rotate_left
  · intro w'
    go_simp
    with_reducible rfl
  rotate_left
  · simp only [Act.put, List.setIfInBounds_toArray, List.set_cons_zero, List.set_cons_succ, i64_w, i32_w]
    rfl
  refine pure_ (i := 1) (N := some 40) (v := ?_) (a' := ?_) #[true, true, false, false, false, false, false, false, false, false, false] rfl rfl (by kernel_rfl) (fun _ _ _ h => h) (Or.inl ⟨by rfl, ?_⟩) ?_ ?_
  rotate_left
  · intro w'
    go_simp
    with_reducible rfl
  rotate_left
  · simp only [Act.put, List.setIfInBounds_toArray, List.set_cons_zero, List.set_cons_succ, i64_w, i32_w]
    rfl
  refine pure_ (i := 2) (N := some 41) (v := ?_) (a' := ?_) #[true, true, true, false, false, false, false, false, false, false, false] rfl rfl (by kernel_rfl) (fun _ _ _ h => h) (Or.inl ⟨by rfl, ?_⟩) ?_ ?_
  rotate_left
  · intro w'
    go_simp
    with_reducible rfl
  rotate_left
  · simp only [Act.put, List.setIfInBounds_toArray, List.set_cons_zero, List.set_cons_succ, i64_w, i32_w]
    rfl
  refine pure_ (i := 4) (N := some 43) (v := ?_) (a' := ?_) #[true, true, true, false, true, false, false, false, false, false, false] rfl rfl (by kernel_rfl) (fun _ _ _ h => h) (Or.inl ⟨by rfl, ?_⟩) ?_ ?_
  rotate_left
  · intro w'
    go_simp
    with_reducible rfl
  rotate_left
  · simp only [Act.put, List.setIfInBounds_toArray, List.set_cons_zero, List.set_cons_succ, i64_w, i32_w]
    rfl
  refine pure_ (i := 5) (N := some 44) (v := ?_) (a' := ?_) #[true, true, true, false, true, true, false, false, false, false, false] rfl rfl (by kernel_rfl) (fun _ _ _ h => h) (Or.inl ⟨by rfl, ?_⟩) ?_ ?_
  rotate_left
  · intro w'
    go_simp
    with_reducible rfl
  rotate_left
  · simp only [Act.put, List.setIfInBounds_toArray, List.set_cons_zero, List.set_cons_succ, i64_w, i32_w]
    rfl
  refine pure_ (i := 6) (N := some 45) (v := ?_) (a' := ?_) #[true, true, true, false, true, true, true, false, false, false, false] rfl rfl (by kernel_rfl) (fun _ _ _ h => h) (Or.inl ⟨by rfl, ?_⟩) ?_ ?_
  rotate_left
  · intro w'
    go_simp
    with_reducible rfl
  rotate_left
  · simp only [Act.put, List.setIfInBounds_toArray, List.set_cons_zero, List.set_cons_succ, i64_w, i32_w]
    rfl
  refine pure_ (i := 8) (N := some 47) (v := ?_) (a' := ?_) #[true, true, true, false, true, true, true, false, true, false, false] rfl rfl (by kernel_rfl) (fun _ _ _ h => h) (Or.inl ⟨by rfl, ?_⟩) ?_ ?_
  rotate_left
  · intro w'
    go_simp
    with_reducible rfl
  rotate_left
  · simp only [Act.put, List.setIfInBounds_toArray, List.set_cons_zero, List.set_cons_succ, i64_w, i32_w]
    rfl
  refine take_ (i := 3) (N := some 42) (v := ?_) (a' := ?_) #[true, true, true, true, true, true, true, false, true, false, false] rfl rfl (by kernel_rfl) (fun _ _ _ h => h) (Or.inl ⟨by rfl, ?_⟩) hHeld ?_ ?_
  rotate_left
  · rintro w' ⟨s0, s1⟩
    go_simp
    with_reducible rfl
  rotate_left
  · simp only [Act.put, List.setIfInBounds_toArray, List.set_cons_zero, List.set_cons_succ, i64_w, i32_w]
    rfl
  refine take_ (i := 7) (N := some 46) (v := ?_) (a' := ?_) #[true, true, true, true, true, true, true, true, true, false, false] rfl rfl (by kernel_rfl) (fun _ _ _ h => h) (Or.inl ⟨by rfl, ?_⟩) hHeld ?_ ?_
  rotate_left
  · rintro w' ⟨s0, s1⟩
    go_simp
    with_reducible rfl
  rotate_left
  · simp only [Act.put, List.setIfInBounds_toArray, List.set_cons_zero, List.set_cons_succ, i64_w, i32_w]
    rfl
  refine one_ (i := 9) (N := some 48) #[true, true, true, true, true, true, true, true, true, true, false] rfl rfl (by kernel_rfl) (by decide) (fun K hK => ?_)
  refine value_ (w1 := ?_) (v := ?_) (by rfl) rfl ?_ ?_
  rotate_left 2
  · go_simp
    constructor
    · rfl
    · rfl
  have X5 := Aside0.mk (heap_alloc_new w4 (.cells #[.slice none 0 0, .slice none 0 0, .slice none 0 0] 87))
  have H5 := Aside0.mk (H4.out.below (below_alloc (Below.refl _ _) (.cells #[.slice none 0 0, .slice none 0 0, .slice none 0 0] 87)))
  have L5 := Aside0.mk (L4.out.alloc W4.out (.cells #[.slice none 0 0, .slice none 0 0, .slice none 0 0] 87))
  have K5 := Aside0.mk (K4.out.alloc (.cells #[.slice none 0 0, .slice none 0 0, .slice none 0 0] 87))
  generalize w4.alloc (.cells #[.slice none 0 0, .slice none 0 0, .slice none 0 0] 87) = w5 at X5 H5 L5 K5 ⊢
  have XB := W4.out
  generalize w4.heap.size = x at X5 XB ⊢
  refine hK.out _ _ ⟨H5.out.fs.c3, H5.out.fs.c4⟩ (fun hHeld => ?_)
  clear hK K
  refine norm_ (a' := ?_) ?_ ?_
  rotate_left
  · show Act.put _ (some 48) _ = _
    simp only [Act.put, List.setIfInBounds_toArray, List.set_cons_zero, List.set_cons_succ, i64_w, i32_w]
    rfl
  refine last_ (i := 10) (N := none) #[true, true, true, true, true, true, true, true, true, true, true] rfl rfl (by kernel_rfl) (by decide) (fun K hK => ?_)
  refine skip_ (w1 := mput w5 mf (.int .i64 1) (.pointer (some ⟨x, 0, none⟩))) (by rfl) rfl (mput_op rfl rfl rfl rfl (put_first (key := .int .i64 1) (v := .pointer (some ⟨x, 0, none⟩)) Try.underlying42 Try.underlying3 (by simp [MapKept.IsKey]) H5.out.files)) ?_
  refine hK.out _ _ ?_
  clear hK K
  refine done_ (by kernel_rfl) ?_
  have H6 := Aside0.mk (H5.out.laid X5.out XB)
  have L6 := Aside0.mk (mput_below L5.out H5.out.hm (.int .i64 1) (.pointer (some ⟨x, 0, none⟩)))
  have K6 := Aside0.mk (K5.out.mput_ H5.out.files (.int .i64 1) (.pointer (some ⟨x, 0, none⟩)))
  have W6 := Aside0.mk (Nat.le_trans HBs.out L6.out.size)
  have c4 := H6.out.fs.c4
  generalize mput w5 mf (.int .i64 1) (.pointer (some ⟨x, 0, none⟩)) = w6 at H6 L6 K6 W6 c4 ⊢
  go_wp2_with (go_at_call 64; (with_reducible refine (turn_on H6.out W6.out).mono ?_); rintro e w7 ⟨rfl, hd, hb, hk⟩; have H7 := Aside0.mk hd; have L7 := Aside0.mk (L6.out.trans hb); have K7 := Aside0.mk (K6.out.trans hk); clear hd hb hk)
  go_ret
  exact ⟨rfl, H7.out, L7.out, K7.out⟩
end Go.Proofs.Ytjefgdggjchhbaa.PAll
