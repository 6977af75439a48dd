/- A disk's inner acts: fails, end, count, walked by hand. Conditions: the disk lies in memory as told. -/
import Derived.Test.YtjefgdggjchhbaaFsRead
import Derived.Maps.RangeWalk
set_option linter.unusedVariables false
set_option linter.unusedSimpArgs false
namespace Go.Proofs.Ytjefgdggjchhbaa.PAll
open Go.RowKit Go.Proofs.YtjefgdggjchhbaaVW.PrintWords Go.Proofs.YtjefgdggjchhbaaVW.PrintLast Go.Proofs.YtjefgdggjchhbaaVW.PrintMore
attribute [local go_sem] max2_int min2_int max_two min_two
set_option maxHeartbeats 8000000
set_option maxRecDepth 100000
theorem fails_on {w : World} {g : Nat} {room used : Int} {mf : Nat} {next : Int} {ms mn : Nat} {rowf : Value} {acts : Int} (H : Fsb w g room used mf next ms mn rowf acts) :
    Calls Try.prog 65 #[.pointer (some ⟨g, 0, none⟩)] w fun e w' => e = .returned (.bool false) ∧ Fsb w' g room used mf next ms mn rowf (wrap64 (acts + 1)) ∧ Touch w w' g := by
  have HH := Aside0.mk H
  have c8 := H.c8
  have c9 := H.c9
  have c10 := H.c10
  have f8 := H.fr 8
  clear H
  go_enter Try.func65, Try.ntmps65
  go_wp2
  go_ret
  exact ⟨rfl, HH.out.put8 _, (Touch.refl _ _).set 8 _⟩
theorem end_on {w : World} {g : Nat} {room used : Int} {mf : Nat} {next : Int} {ms mn : Nat} {rowf : Value} {acts : Int} (H : Fsb w g room used mf next ms mn rowf acts) :
    Calls Try.prog 73 #[.pointer (some ⟨g, 0, none⟩)] w fun e w' => e = .returned (.int .i64 0) ∧ Fsb w' g room used mf next ms mn rowf (wrap64 (acts + 1)) ∧ Touch w w' g := by
  have HH := Aside0.mk H
  clear H
  go_enter Try.func73, Try.ntmps73
  go_wp2_with (go_at_call 65; (with_reducible refine (fails_on HH.out).mono ?_); rintro e w2 ⟨rfl, h1, h2⟩; have H1 := Aside0.mk h1; have H2 := Aside0.mk h2; clear h1 h2)
  go_ret
  exact ⟨rfl, H1.out, H2.out⟩
/-! ### the one round over a directory of one name -/
theorem wp_op {P : Program} {w : World} {ops : Array Oper} {rest : List Oper} {o : Oper} {a : Act} {Q : Exit → Act → World → Prop} (hg : o.guard = none) (v : Value) (w1 : World) (hrun : (execOp a.eval o).run P w = .ok (.value v) w1) (hK : wpList P ops Q rest (a.put o.dst v) w1) : wpList P ops Q (o :: rest) a w := by
  refine wpList_plain hg fun K' hK' => ?_
  unfold Oper.wp
  rw [hrun, Oper.upon_value]
  exact hK' _ _ hK
def iput (w : World) (r : Nat) (o : Obj) : World := { w with heap := w.heap.setIfInBounds r o }
theorem iput_at {w : World} {r : Nat} {o : Obj} (hb : w.heap[r]? = some o) (o' : Obj) : (iput w r o').heap[r]? = some o' := (MapKept.heap_set hb).1
theorem iput_touch {w : World} {r : Nat} {o : Obj} (hb : w.heap[r]? = some o) (o' : Obj) : Touch w (iput w r o') r :=
  ⟨⟨Nat.le_of_eq (by simp [iput]), fun k _ hk _ => (MapKept.heap_set hb).2 k hk⟩, ⟨rfl, rfl, rfl, by simp [iput], fun k hk => (MapKept.heap_set hb).2 k (by omega)⟩⟩
theorem run_setObj_iter {P : Program} {w : World} {r : Nat} {m : Option Nat} {s : Nat} {seen : Array Nat} {c : Nat} (hr : w.heap[r]? = some (.mapIter m s seen c)) (o' : Obj) : (setObj r o').run P w = .ok () (iput w r o') := by
  simp [setObj, Sem.run, hr, iput]
theorem run_getObj_iter {P : Program} {w : World} {r : Nat} {m : Option Nat} {s : Nat} {seen : Array Nat} {c : Nat} (hr : w.heap[r]? = some (.mapIter m s seen c)) : (getObj r).run P w = .ok (.mapIter m s seen c) w := by
  simp [getObj, Sem.run, hr]
theorem next_first {P : Program} {w : World} {r mn ty : Nat} (hr : w.heap[r]? = some (.mapIter (some mn) 1 #[] 1)) (hb : w.heap[mn]? = some (.map seenOne 1)) :
    (Instr.next (.pointer (some ⟨r, 0, none⟩)) false ty).run P w = .ok (.tuple #[.bool true, .string nameS, .int .i64 1]) (iput w r (.mapIter (some mn) 1 #[0] 1)) := by
  simp [Instr.next, run_getObj_iter hr, MapKept.run_getObj_map hb, seenOne, Result.andThen, choose, Sem.run, Question.forced, run_setObj_iter hr]
theorem next_over {P : Program} {w : World} {r mn ty : Nat} (hr : w.heap[r]? = some (.mapIter (some mn) 1 #[0] 1)) (hb : w.heap[mn]? = some (.map seenOne 1)) :
    (Instr.next (.pointer (some ⟨r, 0, none⟩)) false ty).run P w = .ok (.tuple #[.bool false]) w := by
  simp [Instr.next, run_getObj_iter hr, MapKept.run_getObj_map hb, seenOne, Result.andThen, choose, Sem.run, Question.forced]
theorem entry_first {P : Program} {w : World} {r mn : Nat} (hr : w.heap[r]? = some (.mapIter (some mn) 1 #[0] 1)) (hb : w.heap[mn]? = some (.map seenOne 1)) :
    (Instr.entry (.pointer (some ⟨r, 0, none⟩))).run P w = .ok (.tuple #[.string nameS, .int .i64 1]) w := by
  simp [Instr.entry, run_getObj_iter hr, MapKept.run_getObj_map hb, seenOne, Result.andThen]
theorem wp_range1 {P : Program} {w : World} {ops : Array Oper} {rest : List Oper} {o : Oper} {a : Act} {Q : Exit → Act → World → Prop} (hg : o.guard = none) (m : Operand) (t k e mn : Nat) (hop : o.op = Op.range t m) (ht : P.underlying t = some (.map k e)) (hm : a.eval m = .map (some mn)) (hb : w.heap[mn]? = some (.map seenOne 1))
    (hK : ∀ r w1, w1.heap[r]? = some (.mapIter (some mn) 1 #[] 1) → w.heap.size ≤ r → Below w.heap.size w w1 → wpList P ops Q rest (a.put o.dst (.pointer (some ⟨r, 0, none⟩))) w1) : wpList P ops Q (o :: rest) a w :=
  wp_op hg _ _ (by simp [execOp, hop, hm, run_range_map w t k e mn seenOne 1 ht hb, Result.andThen]) (hK _ _ (heap_alloc_new _ _) (Nat.le_refl _) (below_alloc (Below.refl _ _) _))
theorem wp_next1 {P : Program} {w : World} {ops : Array Oper} {rest : List Oper} {o : Oper} {a : Act} {Q : Exit → Act → World → Prop} (hg : o.guard = none) (m : Operand) (mn r : Nat) (hop : o.op = Op.next m false) (hm : a.eval m = .pointer (some ⟨r, 0, none⟩)) (hr : w.heap[r]? = some (.mapIter (some mn) 1 #[] 1)) (hb : w.heap[mn]? = some (.map seenOne 1))
    (hK : ∀ w1, w1.heap[r]? = some (.mapIter (some mn) 1 #[0] 1) → Touch w w1 r → wpList P ops Q rest (a.put o.dst (.tuple #[.bool true, .string nameS, .int .i64 1])) w1) : wpList P ops Q (o :: rest) a w :=
  wp_op hg _ _ (by simp [execOp, hop, hm, next_first hr hb, Result.andThen]) (hK _ (iput_at hr _) (iput_touch hr _))
theorem wp_next2 {P : Program} {w : World} {ops : Array Oper} {rest : List Oper} {o : Oper} {a : Act} {Q : Exit → Act → World → Prop} (hg : o.guard = none) (m : Operand) (mn r : Nat) (hop : o.op = Op.next m false) (hm : a.eval m = .pointer (some ⟨r, 0, none⟩)) (hr : w.heap[r]? = some (.mapIter (some mn) 1 #[0] 1)) (hb : w.heap[mn]? = some (.map seenOne 1))
    (hK : wpList P ops Q rest (a.put o.dst (.tuple #[.bool false])) w) : wpList P ops Q (o :: rest) a w :=
  wp_op hg _ _ (by simp [execOp, hop, hm, next_over hr hb, Result.andThen]) hK
theorem wp_entry1 {P : Program} {w : World} {ops : Array Oper} {rest : List Oper} {o : Oper} {a : Act} {Q : Exit → Act → World → Prop} (hg : o.guard = none) (m : Operand) (mn r : Nat) (hop : o.op = Op.entry m) (hm : a.eval m = .pointer (some ⟨r, 0, none⟩)) (hr : w.heap[r]? = some (.mapIter (some mn) 1 #[0] 1)) (hb : w.heap[mn]? = some (.map seenOne 1))
    (hK : wpList P ops Q rest (a.put o.dst (.tuple #[.string nameS, .int .i64 1])) w) : wpList P ops Q (o :: rest) a w :=
  wp_op hg _ _ (by simp [execOp, hop, hm, entry_first hr hb, Result.andThen]) hK
theorem wrap64_small (n : Nat) (h : n < 9223372036854775808) : wrap64 (n : Int) = n := by
  unfold wrap64
  omega
theorem count_on {w : World} {g : Nat} {room used : Int} {mf : Nat} {next : Int} {ms mn : Nat} {rowf : Value} {acts : Int} {x n cap : Nat} {sure row : Value} {A : Option Addr} (H : Fsb w g room used mf next ms mn rowf acts) (Hn : w.heap[mn]? = some (.map seenOne 1)) (Hf : w.heap[mf]? = some (.map (fileOne x) 1)) (Hx : Fileb w x sure (.slice A n cap) row) (hl : n < 9223372036854775808) :
    Calls Try.prog 72 #[.pointer (some ⟨g, 0, none⟩)] w fun e w' => e = .returned (.tuple #[]) ∧ Fsb w' g room n mf next ms mn rowf acts ∧ Touch w w' g := by
  have HG := Aside0.mk (blk_lt H)
  have HL := Aside0.mk hl
  have gmn : mn ≠ g := by rintro rfl; unfold Fsb at H; rw [Hn] at H; cases H
  have gmf : mf ≠ g := by rintro rfl; unfold Fsb at H; rw [Hf] at H; cases H
  have gx : x ≠ g := fun e => by unfold Fsb at H; unfold Fileb at Hx; rw [e, H] at Hx; injection Hx with Hx; injection Hx with _ Hx; cases Hx
  have f2 := H.fr 2
  have c2 := H.c2
  have c6 := H.c6
  have W1 := Aside0.mk (H.put2 0)
  have T1 := Aside0.mk ((Touch.refl w g).set 2 (.int .i64 0))
  have N1 := Aside0.mk (T1.out.blk Hn gmn)
  have F1 := Aside0.mk (T1.out.blk Hf gmf)
  have X1 := Aside0.mk (T1.out.blk Hx gx)
  have L1 := Aside0.mk (blk_lt W1.out)
  have GMN := Aside0.mk gmn
  clear H Hn Hf Hx hl gmn gmf gx
  go_enter Try.func72, Try.ntmps72
  go_wp2_with (at_range; refine wp_range1 rfl _ 43 _ _ mn rfl Try.underlying43 rfl N1.out ?_; intro r w2 hi hr hb; have I2 := Aside0.mk hi; have W2 := Aside0.mk (W1.out.below hb); have T2 := Aside0.mk (T1.out.below L1.out hb); have N2 := Aside0.mk (blk_below N1.out hb); have F2 := Aside0.mk (blk_below F1.out hb); have X2 := Aside0.mk (blk_below X1.out hb); have R2 := Aside0.mk (Nat.lt_of_lt_of_le (by simpa using HG.out) hr); have RW2 := Aside0.mk (by simpa using hr); have NMR := Aside0.mk (Nat.ne_of_lt (Nat.lt_of_lt_of_le (blk_lt N1.out) hr)); have NFR := Aside0.mk (Nat.ne_of_lt (Nat.lt_of_lt_of_le (blk_lt F1.out) hr)); have NXR := Aside0.mk (Nat.ne_of_lt (Nat.lt_of_lt_of_le (blk_lt X1.out) hr)); clear hi hr hb)
  refine wp_loop_rounds 2 ?_
  rw [rounds_succ]
  go_wp2_with (first
    | (at_next; refine wp_next1 rfl _ mn r rfl rfl I2.out N2.out ?_; intro w3 hi ht; have I3 := Aside0.mk hi; have W3 := Aside0.mk (show Fsb w3 g room 0 mf next ms mn rowf acts from ht.blk W2.out (Nat.ne_of_lt R2.out)); have N3 := Aside0.mk (ht.blk N2.out NMR.out); have F3 := Aside0.mk (ht.blk F2.out NFR.out); have X3 := Aside0.mk (show Fileb w3 x sure (.slice A n cap) row from ht.blk X2.out NXR.out); have T3 := Aside0.mk (T2.out.past RW2.out R2.out ht); clear hi ht)
    | (refine wp_entry1 rfl _ mn r rfl rfl I3.out N3.out ?_))
  refine start_ (n := 18) (S := fun w' => w'.cell? ⟨g, 2, none⟩ = some (.int .i64 0) ∧ w'.cell? ⟨g, 3, none⟩ = some (.map (some mf)) ∧ (Instr.lookup 42 (.map (some mf)) (.int .i64 1) false).run Try.prog w' = .ok (.pointer (some ⟨x, 0, none⟩)) w' ∧ w'.cell? ⟨x, 1, none⟩ = some (.slice A n cap)) (ds := [17]) #[false, false, false, false, false, false, false, false, false, false, false, false, false, false, false, false, false, false] (by kernel_rfl) rfl rfl ⟨W3.out.c2, W3.out.c3, file_hit (w := w3.drew) F3.out, X3.out.c1⟩ (fun hHeld => ?_)
  have W4 := Aside0.mk (show Fsb w3.drew g room 0 mf next ms mn rowf acts from W3.out)
  have T4 := Aside0.mk T3.out.drew
  have I4 := Aside0.mk (show w3.drew.heap[r]? = _ from I3.out)
  have N4 := Aside0.mk (show w3.drew.heap[mn]? = _ from N3.out)
  generalize w3.drew = w4 at W4 T4 I4 N4 hHeld ⊢
  have fz := W4.out.fr 2
  have cz := W4.out.c2
  have hw := wrap64_small n HL.out
  refine pure_ (i := 0) (N := some 16) (v := ?_) (a' := ?_) #[true, false, false, false, false, false, false, false, false, false, false, false, false, false, false, false, false, false] rfl rfl (by kernel_rfl) (fun _ _ _ h => h) (Or.inl ⟨by rfl, ?_⟩) ?_ ?_
  rotate_left
  · intro w'
    go_simp
    with_reducible rfl
  rotate_left
  · simp only [Act.put, List.setIfInBounds_toArray, List.set_cons_zero, List.set_cons_succ, i64_w, i32_w]
    rfl
  refine pure_ (i := 1) (N := some 17) (v := ?_) (a' := ?_) #[true, true, false, false, false, false, false, false, false, false, false, false, false, false, false, false, false, false] rfl rfl (by kernel_rfl) (fun _ _ _ h => h) (Or.inl ⟨by rfl, ?_⟩) ?_ ?_
  rotate_left
  · intro w'
    go_simp
    with_reducible rfl
  rotate_left
  · simp only [Act.put, List.setIfInBounds_toArray, List.set_cons_zero, List.set_cons_succ, i64_w, i32_w]
    rfl
  refine pure_ (i := 2) (N := some 18) (v := ?_) (a' := ?_) #[true, true, true, false, false, false, false, false, false, false, false, false, false, false, false, false, false, false] rfl rfl (by kernel_rfl) (fun _ _ _ h => h) (Or.inl ⟨by rfl, ?_⟩) ?_ ?_
  rotate_left
  · intro w'
    go_simp
    with_reducible rfl
  rotate_left
  · simp only [Act.put, List.setIfInBounds_toArray, List.set_cons_zero, List.set_cons_succ, i64_w, i32_w]
    rfl
  refine pure_ (i := 4) (N := some 20) (v := ?_) (a' := ?_) #[true, true, true, false, true, false, false, false, false, false, false, false, false, false, false, false, false, false] rfl rfl (by kernel_rfl) (fun _ _ _ h => h) (Or.inl ⟨by rfl, ?_⟩) ?_ ?_
  rotate_left
  · intro w'
    go_simp
    with_reducible rfl
  rotate_left
  · simp only [Act.put, List.setIfInBounds_toArray, List.set_cons_zero, List.set_cons_succ, i64_w, i32_w]
    rfl
  refine pure_ (i := 5) (N := some 21) (v := ?_) (a' := ?_) #[true, true, true, false, true, true, false, false, false, false, false, false, false, false, false, false, false, false] rfl rfl (by kernel_rfl) (fun _ _ _ h => h) (Or.inl ⟨by rfl, ?_⟩) ?_ ?_
  rotate_left
  · intro w'
    go_simp
    with_reducible rfl
  rotate_left
  · simp only [Act.put, List.setIfInBounds_toArray, List.set_cons_zero, List.set_cons_succ, i64_w, i32_w]
    rfl
  refine pure_ (i := 6) (N := some 22) (v := ?_) (a' := ?_) #[true, true, true, false, true, true, true, false, false, false, false, false, false, false, false, false, false, false] rfl rfl (by kernel_rfl) (fun _ _ _ h => h) (Or.inl ⟨by rfl, ?_⟩) ?_ ?_
  rotate_left
  · intro w'
    go_simp
    with_reducible rfl
  rotate_left
  · simp only [Act.put, List.setIfInBounds_toArray, List.set_cons_zero, List.set_cons_succ, i64_w, i32_w]
    rfl
  refine pure_ (i := 8) (N := some 24) (v := ?_) (a' := ?_) #[true, true, true, false, true, true, true, false, true, false, false, false, false, false, false, false, false, false] rfl rfl (by kernel_rfl) (fun _ _ _ h => h) (Or.inl ⟨by rfl, ?_⟩) ?_ ?_
  rotate_left
  · intro w'
    go_simp
    with_reducible rfl
  rotate_left
  · simp only [Act.put, List.setIfInBounds_toArray, List.set_cons_zero, List.set_cons_succ, i64_w, i32_w]
    rfl
  refine take_ (i := 3) (N := some 19) (v := ?_) (a' := ?_) #[true, true, true, true, true, true, true, false, true, false, false, false, false, false, false, false, false, false] rfl rfl (by kernel_rfl) (fun _ _ _ h => h) (Or.inl ⟨by rfl, ?_⟩) hHeld ?_ ?_
  rotate_left
  · rintro w' ⟨s0, s1, s2, s3⟩
    go_simp
    with_reducible rfl
  rotate_left
  · simp only [Act.put, List.setIfInBounds_toArray, List.set_cons_zero, List.set_cons_succ, i64_w, i32_w]
    rfl
  refine take_ (i := 7) (N := some 23) (v := ?_) (a' := ?_) #[true, true, true, true, true, true, true, true, true, false, false, false, false, false, false, false, false, false] rfl rfl (by kernel_rfl) (fun _ _ _ h => h) (Or.inl ⟨by rfl, ?_⟩) hHeld ?_ ?_
  rotate_left
  · rintro w' ⟨s0, s1, s2, s3⟩
    go_simp
    with_reducible rfl
  rotate_left
  · simp only [Act.put, List.setIfInBounds_toArray, List.set_cons_zero, List.set_cons_succ, i64_w, i32_w]
    rfl
  refine take_ (i := 9) (N := some 25) (v := ?_) (a' := ?_) #[true, true, true, true, true, true, true, true, true, true, false, false, false, false, false, false, false, false] rfl rfl (by kernel_rfl) (fun _ _ _ h => h) (Or.inl ⟨by rfl, ?_⟩) hHeld ?_ ?_
  rotate_left
  · rintro w' ⟨s0, s1, s2, s3⟩
    go_simp
    with_reducible rfl
  rotate_left
  · simp only [Act.put, List.setIfInBounds_toArray, List.set_cons_zero, List.set_cons_succ, i64_w, i32_w]
    rfl
  refine pure_ (i := 10) (N := some 26) (v := ?_) (a' := ?_) #[true, true, true, true, true, true, true, true, true, true, true, false, false, false, false, false, false, false] rfl rfl (by kernel_rfl) (fun _ _ _ h => h) (Or.inl ⟨by rfl, ?_⟩) ?_ ?_
  rotate_left
  · intro w'
    go_simp
    with_reducible rfl
  rotate_left
  · simp only [Act.put, List.setIfInBounds_toArray, List.set_cons_zero, List.set_cons_succ, i64_w, i32_w]
    rfl
  refine pure_ (i := 11) (N := some 27) (v := ?_) (a' := ?_) #[true, true, true, true, true, true, true, true, true, true, true, true, false, false, false, false, false, false] rfl rfl (by kernel_rfl) (fun _ _ _ h => h) (Or.inl ⟨by rfl, ?_⟩) ?_ ?_
  rotate_left
  · intro w'
    go_simp
    with_reducible rfl
  rotate_left
  · simp only [Act.put, List.setIfInBounds_toArray, List.set_cons_zero, List.set_cons_succ, i64_w, i32_w]
    rfl
  refine take_ (i := 12) (N := some 28) (v := ?_) (a' := ?_) #[true, true, true, true, true, true, true, true, true, true, true, true, true, false, false, false, false, false] rfl rfl (by kernel_rfl) (fun _ _ _ h => h) (Or.inl ⟨by rfl, ?_⟩) hHeld ?_ ?_
  rotate_left
  · rintro w' ⟨s0, s1, s2, s3⟩
    go_simp
    with_reducible rfl
  rotate_left
  · simp only [Act.put, List.setIfInBounds_toArray, List.set_cons_zero, List.set_cons_succ, i64_w, i32_w]
    rfl
  refine pure_ (i := 13) (N := some 29) (v := ?_) (a' := ?_) #[true, true, true, true, true, true, true, true, true, true, true, true, true, true, false, false, false, false] rfl rfl (by kernel_rfl) (fun _ _ _ h => h) (Or.inl ⟨by rfl, ?_⟩) ?_ ?_
  rotate_left
  · intro w'
    go_simp
    with_reducible rfl
  rotate_left
  · simp only [Act.put, List.setIfInBounds_toArray, List.set_cons_zero, List.set_cons_succ, i64_w, i32_w]
    rfl
  refine pure_ (i := 14) (N := some 30) (v := ?_) (a' := ?_) #[true, true, true, true, true, true, true, true, true, true, true, true, true, true, true, false, false, false] rfl rfl (by kernel_rfl) (fun _ _ _ h => h) (Or.inl ⟨by rfl, ?_⟩) ?_ ?_
  rotate_left
  · intro w'
    go_simp
    with_reducible rfl
  rotate_left
  · simp only [Act.put, List.setIfInBounds_toArray, List.set_cons_zero, List.set_cons_succ, i64_w, i32_w]
    rfl
  refine pure_ (i := 15) (N := some 31) (v := ?_) (a' := ?_) #[true, true, true, true, true, true, true, true, true, true, true, true, true, true, true, true, false, false] rfl rfl (by kernel_rfl) (fun _ _ _ h => h) (Or.inl ⟨by rfl, ?_⟩) ?_ ?_
  rotate_left
  · intro w'
    go_simp
    with_reducible rfl
  rotate_left
  · simp only [Act.put, List.setIfInBounds_toArray, List.set_cons_zero, List.set_cons_succ, i64_w, i32_w]
    rfl
  refine pure_ (i := 16) (N := some 32) (v := ?_) (a' := ?_) #[true, true, true, true, true, true, true, true, true, true, true, true, true, true, true, true, true, false] rfl rfl (by kernel_rfl) (fun _ _ _ h => h) (Or.inl ⟨by rfl, ?_⟩) ?_ ?_
  rotate_left
  · intro w'
    go_simp
    with_reducible rfl
  rotate_left
  · simp only [Act.put, List.setIfInBounds_toArray, List.set_cons_zero, List.set_cons_succ, i64_w, i32_w]
    rfl
  refine last_ (i := 17) (N := none) #[true, true, true, true, true, true, true, true, true, true, true, true, true, true, true, true, true, true] rfl rfl (by kernel_rfl) (by decide) (fun K hK => ?_)
  refine skip_ (w1 := ?_) (by rfl) rfl ?_ ?_
  rotate_left
  · go_simp
    rfl
  refine hK.out _ _ ?_
  clear hK K
  refine done_ (by kernel_rfl) ?_
  have T5 := Aside0.mk (T4.out.set 2 (.int .i64 n))
  have W5 := Aside0.mk (W4.out.put2 n)
  have I5 := Aside0.mk (((Touch.refl w4 g).set 2 (.int .i64 n)).blk I4.out (Nat.ne_of_gt R2.out))
  have N5 := Aside0.mk (((Touch.refl w4 g).set 2 (.int .i64 n)).blk N4.out GMN.out)
  try go_wp2
  rw [rounds_succ]
  go_wp2_with (at_next; refine wp_next2 rfl _ mn r rfl rfl I5.out N5.out ?_)
  go_end0
  exact ⟨rfl, W5.out, T5.out⟩
end Go.Proofs.Ytjefgdggjchhbaa.PAll
