/- stooklaw21.step, walked by hand: an act, done to the disk and to the document's bytes. Conditions: the disk and the bytes lie in memory as told; what the layer's functions answer is told. -/
import Derived.Test.YtjefgdggjchhbaaFsShard
import Derived.Test.YtjefgdggjchhbaaPAllx13
import Derived.Test.YtjefgdggjchhbaaPAllx14
set_option linter.unusedVariables false
set_option linter.unusedSimpArgs false
namespace Go.Proofs.Ytjefgdggjchhbaa.PAll
open Go.RowKit Go.Proofs.YtjefgdggjchhbaaVW.PrintWords Go.Proofs.YtjefgdggjchhbaaVW.PrintLast Go.Proofs.YtjefgdggjchhbaaVW.PrintMore
attribute [local go_sem] max2_int min2_int max_two min_two
set_option maxHeartbeats 8000000
set_option maxRecDepth 100000
/-- What holds ahead of an act and behind it. -/
structure At (w0 w : World) (g : Nat) (room : Int) (F : List Int) (m : Nat) (v : Value) : Prop where
  disk : Disk w w0.heap.size g room F m
  own : Kd.R (Kd.int .u8) 5 w w0.heap.size (fun _ => True) v F
  bel : Below w0.heap.size w0 w
theorem At.below {w0 w w' : World} {g : Nat} {room : Int} {F : List Int} {m : Nat} {v : Value} (h : At w0 w g room F m v) (hb : Below w.heap.size w w') : At w0 w' g room F m v := ⟨h.disk.below hb, Kd.R_below h.own hb, below_step h.bel hb⟩
theorem At.mono {w0 w : World} {g : Nat} {room : Int} {F : List Int} {m m' : Nat} {v : Value} (h : At w0 w g room F m v) (hm : m ≤ m') : At w0 w g room F m' v := ⟨h.disk.mono hm, h.own, h.bel⟩
theorem ne59 : ¬ FsT 59 := by unfold FsT; omega
theorem step_add_bad {w0 w : World} {g : Nat} {room : Int} {F : List Int} {m : Nat} {Af : Option Addr} {cf : Nat} {n free : Int} {any : Bool} {Ad : Option Addr} {D : List Int} {cd k : Nat} (h : At w0 w g room F m (.slice Af F.length cf)) (hD : Kd.C (Kd.int .u8) w0 Ad D.length D) (hc : D.length ≤ cd) (hr : room ≤ 1048576) (hF : (F.length : Int) ≤ room) (hm : m ≤ 10000) {b : List Int} {q : Int} (h1 : shard_Body.f k D = some (b, q)) (h2 : stookref21_Body.f k D = some (b, q)) (hq : q ≠ 0) :
    Calls Try.prog 28 #[.pointer (some ⟨g, 0, none⟩), .slice Af F.length cf, .agg #[.int .i64 0, .int .i64 n, .bool any, .slice Ad D.length cd], .int .i64 free] w fun e w' => e = .returned (.tuple #[.slice Af F.length cf, .bool true]) ∧ At w0 w' g room F m (.slice Af F.length cf) := by
  have HS := Aside0.mk h1
  have HT := Aside0.mk h2
  clear h1 h2
  have q1 : (q == 0) = false := beq_eq_false_iff_ne.mpr hq
  have q2 : (q != 0) = true := bne_iff_ne.mpr hq
  have H0 := Aside0.mk h
  have HD := Aside0.mk hD
  have HC := Aside0.mk hc
  have HR := Aside0.mk hr
  have HF := Aside0.mk hF
  have HM := Aside0.mk hm
  have HFl := Aside0.mk (show F.length ≤ 1048576 by omega)
  have b0 := Aside0.mk (heap_alloc_new w (.cells #[.int .i64 0, .int .i64 n, .bool any, .slice Ad D.length cd] 59))
  have HL0 := Aside0.mk h.bel.size
  have ha0 := below_alloc (Below.refl w.heap.size w) (.cells #[.int .i64 0, .int .i64 n, .bool any, .slice Ad D.length cd] 59)
  have H1 := Aside0.mk (h.below ha0)
  have BB1 := Aside0.mk (Nat.le_trans HL0.out ha0.size)
  have g0 := (blk_cell b0.out 0).trans rfl
  have g3 := (blk_cell b0.out 3).trans rfl
  clear h hD hc hr hF hm ha0

  go_enter Try.func28, Try.ntmps28
  go_wp2_with (first
    | (go_at_call 23; (with_reducible refine (add_bad H1.out.disk BB1.out (Kd.C_below HD.out H1.out.bel) HC.out HS.out hq).mono ?_); rintro e w2 ⟨rfl, hb⟩; have H2 := Aside0.mk (H1.out.below hb); have b2 := Aside0.mk (blk_below b0.out hb); have g3b := (blk_cell b2.out 3).trans rfl; clear hb)
    | (go_at_call 12; (with_reducible refine (stookref21_Body.calls k Ad cd D b q w2 (Kd.C_below HD.out H2.out.bel) HC.out HT.out).mono ?_); rintro e w3 ⟨v, rfl, ho, hb⟩; obtain ⟨Ab, cb, eb⟩ := Kd.R_slice ho; subst eb; have H3 := Aside0.mk (H2.out.below hb); have O3 := Aside0.mk ho; clear ho hb))
  go_ret2
  exact ⟨rfl, H3.out⟩
theorem step_add_full {w0 w : World} {g : Nat} {room : Int} {F : List Int} {m : Nat} {Af : Option Addr} {cf : Nat} {n free : Int} {any : Bool} {Ad : Option Addr} {D : List Int} {cd k : Nat} (h : At w0 w g room F m (.slice Af F.length cf)) (hD : Kd.C (Kd.int .u8) w0 Ad D.length D) (hc : D.length ≤ cd) (hr : room ≤ 1048576) (hF : (F.length : Int) ≤ room) (hm : m ≤ 10000) {b : List Int}  (h1 : shard_Body.f k D = some (b, 0)) (h2 : stookref21_Body.f k D = some (b, 0)) (hl : 0 < b.length) (hfr : free = room - (F.length : Int)) (hf : room - F.length < b.length) :
    Calls Try.prog 28 #[.pointer (some ⟨g, 0, none⟩), .slice Af F.length cf, .agg #[.int .i64 0, .int .i64 n, .bool any, .slice Ad D.length cd], .int .i64 free] w fun e w' => e = .returned (.tuple #[.slice Af F.length cf, .bool true]) ∧ At w0 w' g room F m (.slice Af F.length cf) := by
  have HS := Aside0.mk h1
  have HT := Aside0.mk h2
  have HLb := Aside0.mk hl
  clear h1 h2
  have HFf := Aside0.mk hf
  have q1 : decide (free < (b.length : Int)) = true := decide_eq_true (by omega)
  clear hl hf hfr
  have H0 := Aside0.mk h
  have HD := Aside0.mk hD
  have HC := Aside0.mk hc
  have HR := Aside0.mk hr
  have HF := Aside0.mk hF
  have HM := Aside0.mk hm
  have HFl := Aside0.mk (show F.length ≤ 1048576 by omega)
  have b0 := Aside0.mk (heap_alloc_new w (.cells #[.int .i64 0, .int .i64 n, .bool any, .slice Ad D.length cd] 59))
  have HL0 := Aside0.mk h.bel.size
  have ha0 := below_alloc (Below.refl w.heap.size w) (.cells #[.int .i64 0, .int .i64 n, .bool any, .slice Ad D.length cd] 59)
  have H1 := Aside0.mk (h.below ha0)
  have BB1 := Aside0.mk (Nat.le_trans HL0.out ha0.size)
  have g0 := (blk_cell b0.out 0).trans rfl
  have g3 := (blk_cell b0.out 3).trans rfl
  clear h hD hc hr hF hm ha0

  go_enter Try.func28, Try.ntmps28
  go_wp2_with (first
    | (go_at_call 23; (with_reducible refine (add_full H1.out.disk BB1.out (Kd.C_below HD.out H1.out.bel) HC.out HS.out HR.out HF.out HLb.out HFf.out).mono ?_); rintro e w2 ⟨rfl, hb⟩; have H2 := Aside0.mk (H1.out.below hb); have b2 := Aside0.mk (blk_below b0.out hb); have g3b := (blk_cell b2.out 3).trans rfl; clear hb)
    | (go_at_call 12; (with_reducible refine (stookref21_Body.calls k Ad cd D b 0 w2 (Kd.C_below HD.out H2.out.bel) HC.out HT.out).mono ?_); rintro e w3 ⟨v, rfl, ho, hb⟩; obtain ⟨Ab, cb, eb⟩ := Kd.R_slice ho; subst eb; have H3 := Aside0.mk (H2.out.below hb); have O3 := Aside0.mk ho; clear ho hb))
  go_ret2
  exact ⟨rfl, H3.out⟩
theorem copy_self {F : List Int} (h : F.length ≤ 1048576) : stookref00_Copy.f F = some F := by
  unfold stookref00_Copy.f
  rw [if_pos (by simp; omega)]
  rfl
theorem step_add_ok {w0 w : World} {g : Nat} {room : Int} {F : List Int} {m : Nat} {Af : Option Addr} {cf : Nat} {n free : Int} {any : Bool} {Ad : Option Addr} {D : List Int} {cd k : Nat} (h : At w0 w g room F m (.slice Af F.length cf)) (hD : Kd.C (Kd.int .u8) w0 Ad D.length D) (hc : D.length ≤ cd) (hr : room ≤ 1048576) (hF : (F.length : Int) ≤ room) (hm : m ≤ 10000) {b : List Int}  (h1 : shard_Body.f k D = some (b, 0)) (h2 : stookref21_Body.f k D = some (b, 0)) (hl : 0 < b.length) (hfr : free = room - (F.length : Int)) (hf : (b.length : Int) ≤ room - F.length) :
    Calls Try.prog 28 #[.pointer (some ⟨g, 0, none⟩), .slice Af F.length cf, .agg #[.int .i64 0, .int .i64 n, .bool any, .slice Ad D.length cd], .int .i64 free] w fun e w' => ∃ v', e = .returned (.tuple #[v', .bool true]) ∧ At w0 w' g room (F ++ b) (m + 1) v' := by
  obtain ⟨G, hG⟩ : ∃ G, G = F ++ b := ⟨_, rfl⟩
  have HG := Aside0.mk hG
  rw [← hG]
  clear hG
  have HS := Aside0.mk h1
  have HT := Aside0.mk h2
  have HLb := Aside0.mk hl
  clear h1 h2
  have HFf := Aside0.mk hf
  have q1 : decide (free < (b.length : Int)) = false := decide_eq_false (by omega)
  clear hl hf hfr
  have H0 := Aside0.mk h
  have HD := Aside0.mk hD
  have HC := Aside0.mk hc
  have HR := Aside0.mk hr
  have HF := Aside0.mk hF
  have HM := Aside0.mk hm
  have HFl := Aside0.mk (show F.length ≤ 1048576 by omega)
  have b0 := Aside0.mk (heap_alloc_new w (.cells #[.int .i64 0, .int .i64 n, .bool any, .slice Ad D.length cd] 59))
  have HL0 := Aside0.mk h.bel.size
  have ha0 := below_alloc (Below.refl w.heap.size w) (.cells #[.int .i64 0, .int .i64 n, .bool any, .slice Ad D.length cd] 59)
  have H1 := Aside0.mk (h.below ha0)
  have BB1 := Aside0.mk (Nat.le_trans HL0.out ha0.size)
  have g0 := (blk_cell b0.out 0).trans rfl
  have g3 := (blk_cell b0.out 3).trans rfl
  clear h hD hc hr hF hm ha0

  go_enter Try.func28, Try.ntmps28
  go_wp2_with (first
    | (go_at_call 23; (with_reducible refine (add_ok H1.out.disk BB1.out (Kd.C_below HD.out H1.out.bel) HC.out HS.out HR.out HF.out HLb.out HFf.out (by have := HM.out; omega)).mono ?_); rintro e w2 ⟨rfl, hd, hb, hk⟩; have D2 := Aside0.mk hd; have O2 := Aside0.mk (R_fs H1.out.own hk u8_fs); have L2 := Aside0.mk (H1.out.bel.trans hb); have b2 := Aside0.mk (blk_fs b0.out hk ne59); have g3b := (blk_cell b2.out 3).trans rfl; clear hd hb hk)
    | (go_at_call 12; (with_reducible refine (stookref21_Body.calls k Ad cd D b 0 w2 (Kd.C_below HD.out L2.out) HC.out HT.out).mono ?_); rintro e w3 ⟨v, rfl, ho, hb⟩; obtain ⟨Ab, cb, eb⟩ := Kd.R_slice ho; subst eb; have D3 := Aside0.mk (D2.out.below hb); have O3 := Aside0.mk (Kd.R_below O2.out hb); have L3 := Aside0.mk (below_step L2.out hb); have P3 := Aside0.mk ho; clear ho hb)
    | (go_at_call 22; (with_reducible refine (stookref00_Copy.calls Af cf F F w3 (Kd.R_reads' O3.out).2.2 (Kd.R_reads' O3.out).2.1 (copy_self HFl.out)).mono ?_); rintro e w4 ⟨v, rfl, ho, hb⟩; obtain ⟨Ac, cc, ec⟩ := Kd.R_slice ho; subst ec; have P4 := Aside0.mk ho; have M4 := Aside0.mk hb; clear ho hb)
    | ((with_reducible refine gate_builtin (b := .append) (xs := #[.tmp 60, .tmp 61]) rfl ?_); at_builtin; refine Kd.R_append_rows (Kd.int .u8) (w0 := w3) w3.heap.size rfl (.tmp 60) (.tmp 61) 22 5 (.int .u8 0) 1 rfl Try.underlying22 info5 rfl (by decide) (by omega) (.slice Ac F.length cc) F b _ _ _ (fun _ => True) (fun _ => False) rfl rfl ?aO ?aR (fun _ _ h => h) (fun _ h => h.elim) ?aF ?aB ?aS ?aL ?_; (case aR => exact (Kd.C_below (Kd.R_reads' P3.out).2.2 M4.out)); (case aB => exact M4.out); (case aF => exact (fun _ _ => trivial)); (case aO => exact P4.out); (case aS => exact M4.out.size); (case aL => have := HFl.out; have := HFf.out; have := HR.out; omega); intro v5 w5 ho hb hg hat; rw [← HG.out] at ho; obtain ⟨Ad5, cd5, ed⟩ := Kd.R_slice ho; subst ed; have O5 := Aside0.mk (Kd.R_lower ho L3.out.size); have D5 := Aside0.mk (D3.out.below hb); have L5 := Aside0.mk (below_step L3.out hb); clear ho hb hg hat))
  go_ret2
  exact ⟨_, rfl, ⟨by rw [HG.out]; exact D5.out, O5.out, L5.out⟩⟩
theorem step_seal_bad {w0 w : World} {g : Nat} {room : Int} {F : List Int} {m : Nat} {Af : Option Addr} {cf : Nat} {n free : Int} {any : Bool} {Ad : Option Addr} {D : List Int} {cd k : Nat} (h : At w0 w g room F m (.slice Af F.length cf)) (hD : Kd.C (Kd.int .u8) w0 Ad D.length D) (hc : D.length ≤ cd) (hr : room ≤ 1048576) (hF : (F.length : Int) ≤ room) (hm : m ≤ 10000) {b : List Int} {q : Int} (h1 : shard_Foot.f k F = some (b, q)) (h2 : stookref21_Foot.f k F = some (b, q)) (hq : q ≠ 0) :
    Calls Try.prog 28 #[.pointer (some ⟨g, 0, none⟩), .slice Af F.length cf, .agg #[.int .i64 1, .int .i64 n, .bool any, .slice Ad D.length cd], .int .i64 free] w fun e w' => e = .returned (.tuple #[.slice Af F.length cf, .bool true]) ∧ At w0 w' g room F m (.slice Af F.length cf) := by
  have HS := Aside0.mk h1
  have HT := Aside0.mk h2
  clear h1 h2
  have q1 : (q == 0) = false := beq_eq_false_iff_ne.mpr hq
  have q2 : (q != 0) = true := bne_iff_ne.mpr hq
  have H0 := Aside0.mk h
  have HD := Aside0.mk hD
  have HC := Aside0.mk hc
  have HR := Aside0.mk hr
  have HF := Aside0.mk hF
  have HM := Aside0.mk hm
  have HFl := Aside0.mk (show F.length ≤ 1048576 by omega)
  have b0 := Aside0.mk (heap_alloc_new w (.cells #[.int .i64 1, .int .i64 n, .bool any, .slice Ad D.length cd] 59))
  have HL0 := Aside0.mk h.bel.size
  have ha0 := below_alloc (Below.refl w.heap.size w) (.cells #[.int .i64 1, .int .i64 n, .bool any, .slice Ad D.length cd] 59)
  have H1 := Aside0.mk (h.below ha0)
  have BB1 := Aside0.mk (Nat.le_trans HL0.out ha0.size)
  have g0 := (blk_cell b0.out 0).trans rfl
  have g3 := (blk_cell b0.out 3).trans rfl
  clear h hD hc hr hF hm ha0

  go_enter Try.func28, Try.ntmps28
  go_wp2_with (first
    | (go_at_call 26; (with_reducible refine (seal_bad H1.out.disk BB1.out HS.out HFl.out hq).mono ?_); rintro e w2 ⟨rfl, hb⟩; have H2 := Aside0.mk (H1.out.below hb); clear hb)
    | (go_at_call 20; (with_reducible refine (stookref21_Foot.calls k Af cf F b q w2 (Kd.R_reads' H2.out.own).2.2 (Kd.R_reads' H2.out.own).2.1 HT.out).mono ?_); rintro e w3 ⟨v, rfl, ho, hb⟩; obtain ⟨Ab, cb, eb⟩ := Kd.R_slice ho; subst eb; have H3 := Aside0.mk (H2.out.below hb); have O3 := Aside0.mk ho; clear ho hb))
  go_ret2
  exact ⟨rfl, H3.out⟩
theorem step_seal_full {w0 w : World} {g : Nat} {room : Int} {F : List Int} {m : Nat} {Af : Option Addr} {cf : Nat} {n free : Int} {any : Bool} {Ad : Option Addr} {D : List Int} {cd k : Nat} (h : At w0 w g room F m (.slice Af F.length cf)) (hD : Kd.C (Kd.int .u8) w0 Ad D.length D) (hc : D.length ≤ cd) (hr : room ≤ 1048576) (hF : (F.length : Int) ≤ room) (hm : m ≤ 10000) {b : List Int}  (h1 : shard_Foot.f k F = some (b, 0)) (h2 : stookref21_Foot.f k F = some (b, 0)) (hl : 0 < b.length) (hfr : free = room - (F.length : Int)) (hf : room - F.length < b.length) :
    Calls Try.prog 28 #[.pointer (some ⟨g, 0, none⟩), .slice Af F.length cf, .agg #[.int .i64 1, .int .i64 n, .bool any, .slice Ad D.length cd], .int .i64 free] w fun e w' => e = .returned (.tuple #[.slice Af F.length cf, .bool true]) ∧ At w0 w' g room F m (.slice Af F.length cf) := by
  have HS := Aside0.mk h1
  have HT := Aside0.mk h2
  have HLb := Aside0.mk hl
  clear h1 h2
  have HFf := Aside0.mk hf
  have q1 : decide (free < (b.length : Int)) = true := decide_eq_true (by omega)
  clear hl hf hfr
  have H0 := Aside0.mk h
  have HD := Aside0.mk hD
  have HC := Aside0.mk hc
  have HR := Aside0.mk hr
  have HF := Aside0.mk hF
  have HM := Aside0.mk hm
  have HFl := Aside0.mk (show F.length ≤ 1048576 by omega)
  have b0 := Aside0.mk (heap_alloc_new w (.cells #[.int .i64 1, .int .i64 n, .bool any, .slice Ad D.length cd] 59))
  have HL0 := Aside0.mk h.bel.size
  have ha0 := below_alloc (Below.refl w.heap.size w) (.cells #[.int .i64 1, .int .i64 n, .bool any, .slice Ad D.length cd] 59)
  have H1 := Aside0.mk (h.below ha0)
  have BB1 := Aside0.mk (Nat.le_trans HL0.out ha0.size)
  have g0 := (blk_cell b0.out 0).trans rfl
  have g3 := (blk_cell b0.out 3).trans rfl
  clear h hD hc hr hF hm ha0

  go_enter Try.func28, Try.ntmps28
  go_wp2_with (first
    | (go_at_call 26; (with_reducible refine (seal_full H1.out.disk BB1.out HS.out HFl.out HR.out HF.out HLb.out HFf.out).mono ?_); rintro e w2 ⟨rfl, hb⟩; have H2 := Aside0.mk (H1.out.below hb); clear hb)
    | (go_at_call 20; (with_reducible refine (stookref21_Foot.calls k Af cf F b 0 w2 (Kd.R_reads' H2.out.own).2.2 (Kd.R_reads' H2.out.own).2.1 HT.out).mono ?_); rintro e w3 ⟨v, rfl, ho, hb⟩; obtain ⟨Ab, cb, eb⟩ := Kd.R_slice ho; subst eb; have H3 := Aside0.mk (H2.out.below hb); have O3 := Aside0.mk ho; clear ho hb))
  go_ret2
  exact ⟨rfl, H3.out⟩
theorem step_seal_ok {w0 w : World} {g : Nat} {room : Int} {F : List Int} {m : Nat} {Af : Option Addr} {cf : Nat} {n free : Int} {any : Bool} {Ad : Option Addr} {D : List Int} {cd k : Nat} (h : At w0 w g room F m (.slice Af F.length cf)) (hD : Kd.C (Kd.int .u8) w0 Ad D.length D) (hc : D.length ≤ cd) (hr : room ≤ 1048576) (hF : (F.length : Int) ≤ room) (hm : m ≤ 10000) {b : List Int}  (h1 : shard_Foot.f k F = some (b, 0)) (h2 : stookref21_Foot.f k F = some (b, 0)) (hl : 0 < b.length) (hfr : free = room - (F.length : Int)) (hf : (b.length : Int) ≤ room - F.length) :
    Calls Try.prog 28 #[.pointer (some ⟨g, 0, none⟩), .slice Af F.length cf, .agg #[.int .i64 1, .int .i64 n, .bool any, .slice Ad D.length cd], .int .i64 free] w fun e w' => ∃ v', e = .returned (.tuple #[v', .bool true]) ∧ At w0 w' g room (F ++ b) 0 v' := by
  obtain ⟨G, hG⟩ : ∃ G, G = F ++ b := ⟨_, rfl⟩
  have HG := Aside0.mk hG
  rw [← hG]
  clear hG
  have HS := Aside0.mk h1
  have HT := Aside0.mk h2
  have HLb := Aside0.mk hl
  clear h1 h2
  have HFf := Aside0.mk hf
  have q1 : decide (free < (b.length : Int)) = false := decide_eq_false (by omega)
  clear hl hf hfr
  have H0 := Aside0.mk h
  have HD := Aside0.mk hD
  have HC := Aside0.mk hc
  have HR := Aside0.mk hr
  have HF := Aside0.mk hF
  have HM := Aside0.mk hm
  have HFl := Aside0.mk (show F.length ≤ 1048576 by omega)
  have b0 := Aside0.mk (heap_alloc_new w (.cells #[.int .i64 1, .int .i64 n, .bool any, .slice Ad D.length cd] 59))
  have HL0 := Aside0.mk h.bel.size
  have ha0 := below_alloc (Below.refl w.heap.size w) (.cells #[.int .i64 1, .int .i64 n, .bool any, .slice Ad D.length cd] 59)
  have H1 := Aside0.mk (h.below ha0)
  have BB1 := Aside0.mk (Nat.le_trans HL0.out ha0.size)
  have g0 := (blk_cell b0.out 0).trans rfl
  have g3 := (blk_cell b0.out 3).trans rfl
  clear h hD hc hr hF hm ha0

  go_enter Try.func28, Try.ntmps28
  go_wp2_with (first
    | (go_at_call 26; (with_reducible refine (seal_ok H1.out.disk BB1.out HS.out HFl.out HR.out HF.out HLb.out HFf.out (by have := HM.out; omega)).mono ?_); rintro e w2 ⟨rfl, hd, hb, hk⟩; have D2 := Aside0.mk hd; have O2 := Aside0.mk (R_fs H1.out.own hk u8_fs); have L2 := Aside0.mk (H1.out.bel.trans hb); clear hd hb hk)
    | (go_at_call 20; (with_reducible refine (stookref21_Foot.calls k Af cf F b 0 w2 (Kd.R_reads' O2.out).2.2 (Kd.R_reads' O2.out).2.1 HT.out).mono ?_); rintro e w3 ⟨v, rfl, ho, hb⟩; obtain ⟨Ab, cb, eb⟩ := Kd.R_slice ho; subst eb; have D3 := Aside0.mk (D2.out.below hb); have O3 := Aside0.mk (Kd.R_below O2.out hb); have L3 := Aside0.mk (below_step L2.out hb); have P3 := Aside0.mk ho; clear ho hb)
    | (go_at_call 22; (with_reducible refine (stookref00_Copy.calls Af cf F F w3 (Kd.R_reads' O3.out).2.2 (Kd.R_reads' O3.out).2.1 (copy_self HFl.out)).mono ?_); rintro e w4 ⟨v, rfl, ho, hb⟩; obtain ⟨Ac, cc, ec⟩ := Kd.R_slice ho; subst ec; have P4 := Aside0.mk ho; have M4 := Aside0.mk hb; clear ho hb)
    | ((with_reducible refine gate_builtin (b := .append) (xs := #[.tmp 95, .tmp 96]) rfl ?_); at_builtin; refine Kd.R_append_rows (Kd.int .u8) (w0 := w3) w3.heap.size rfl (.tmp 95) (.tmp 96) 22 5 (.int .u8 0) 1 rfl Try.underlying22 info5 rfl (by decide) (by omega) (.slice Ac F.length cc) F b _ _ _ (fun _ => True) (fun _ => False) rfl rfl ?aO ?aR (fun _ _ h => h) (fun _ h => h.elim) ?aF ?aB ?aS ?aL ?_; (case aR => exact (Kd.C_below (Kd.R_reads' P3.out).2.2 M4.out)); (case aB => exact M4.out); (case aF => exact (fun _ _ => trivial)); (case aO => exact P4.out); (case aS => exact M4.out.size); (case aL => have := HFl.out; have := HFf.out; have := HR.out; omega); intro v5 w5 ho hb hg hat; rw [← HG.out] at ho; obtain ⟨Ad5, cd5, ed⟩ := Kd.R_slice ho; subst ed; have O5 := Aside0.mk (Kd.R_lower ho L3.out.size); have D5 := Aside0.mk (D3.out.below hb); have L5 := Aside0.mk (below_step L3.out hb); clear ho hb hg hat))
  go_ret2
  exact ⟨_, rfl, ⟨by rw [HG.out]; exact D5.out, O5.out, L5.out⟩⟩
theorem step_other {w0 w : World} {g : Nat} {room : Int} {F : List Int} {m : Nat} {Af : Option Addr} {cf : Nat} {do_ n free : Int} {any : Bool} {Ad : Option Addr} {D : List Int} {cd k : Nat} (h : At w0 w g room F m (.slice Af F.length cf)) (hD : Kd.C (Kd.int .u8) w0 Ad D.length D) (hc : D.length ≤ cd) (hr : room ≤ 1048576) (hF : (F.length : Int) ≤ room) (hm : m ≤ 10000) (h0 : do_ ≠ 0) (h1 : do_ ≠ 1) (h2 : do_ ≠ 2) (h3 : do_ ≠ 3) :
    Calls Try.prog 28 #[.pointer (some ⟨g, 0, none⟩), .slice Af F.length cf, .agg #[.int .i64 do_, .int .i64 n, .bool any, .slice Ad D.length cd], .int .i64 free] w fun e w' => e = .returned (.tuple #[.slice Af F.length cf, .bool true]) ∧ At w0 w' g room F m (.slice Af F.length cf) := by
  have q0 : (do_ == 0) = false := beq_eq_false_iff_ne.mpr h0
  have q1 : (do_ == 1) = false := beq_eq_false_iff_ne.mpr h1
  have q2 : (do_ == 2) = false := beq_eq_false_iff_ne.mpr h2
  have q3 : (do_ == 3) = false := beq_eq_false_iff_ne.mpr h3
  clear h0 h1 h2 h3
  have H0 := Aside0.mk h
  have HD := Aside0.mk hD
  have HC := Aside0.mk hc
  have HR := Aside0.mk hr
  have HF := Aside0.mk hF
  have HM := Aside0.mk hm
  have HFl := Aside0.mk (show F.length ≤ 1048576 by omega)
  have b0 := Aside0.mk (heap_alloc_new w (.cells #[.int .i64 do_, .int .i64 n, .bool any, .slice Ad D.length cd] 59))
  have HL0 := Aside0.mk h.bel.size
  have ha0 := below_alloc (Below.refl w.heap.size w) (.cells #[.int .i64 do_, .int .i64 n, .bool any, .slice Ad D.length cd] 59)
  have H1 := Aside0.mk (h.below ha0)
  have BB1 := Aside0.mk (Nat.le_trans HL0.out ha0.size)
  have g0 := (blk_cell b0.out 0).trans rfl
  have g3 := (blk_cell b0.out 3).trans rfl
  clear h hD hc hr hF hm ha0

  go_enter Try.func28, Try.ntmps28
  go_wp2_with (first
    | (fail))
  go_ret2
  exact ⟨rfl, H1.out⟩
theorem step_bytes_full {w0 w : World} {g : Nat} {room : Int} {F : List Int} {m : Nat} {Af : Option Addr} {cf : Nat} {n free : Int} {any : Bool} {Ad : Option Addr} {D : List Int} {cd k : Nat} (h : At w0 w g room F m (.slice Af F.length cf)) (hD : Kd.C (Kd.int .u8) w0 Ad D.length D) (hc : D.length ≤ cd) (hr : room ≤ 1048576) (hF : (F.length : Int) ≤ room) (hm : m ≤ 10000) (hn : 0 < D.length ∧ room - F.length < D.length) :
    Calls Try.prog 28 #[.pointer (some ⟨g, 0, none⟩), .slice Af F.length cf, .agg #[.int .i64 3, .int .i64 n, .bool any, .slice Ad D.length cd], .int .i64 free] w fun e w' => e = .returned (.tuple #[.slice Af F.length cf, .bool true]) ∧ At w0 w' g room F m (.slice Af F.length cf) := by
  have HN := Aside0.mk hn
  clear hn
  have H0 := Aside0.mk h
  have HD := Aside0.mk hD
  have HC := Aside0.mk hc
  have HR := Aside0.mk hr
  have HF := Aside0.mk hF
  have HM := Aside0.mk hm
  have HFl := Aside0.mk (show F.length ≤ 1048576 by omega)
  have b0 := Aside0.mk (heap_alloc_new w (.cells #[.int .i64 3, .int .i64 n, .bool any, .slice Ad D.length cd] 59))
  have HL0 := Aside0.mk h.bel.size
  have ha0 := below_alloc (Below.refl w.heap.size w) (.cells #[.int .i64 3, .int .i64 n, .bool any, .slice Ad D.length cd] 59)
  have H1 := Aside0.mk (h.below ha0)
  have BB1 := Aside0.mk (Nat.le_trans HL0.out ha0.size)
  have g0 := (blk_cell b0.out 0).trans rfl
  have g3 := (blk_cell b0.out 3).trans rfl
  clear h hD hc hr hF hm ha0

  go_enter Try.func28, Try.ntmps28
  go_wp2_with (first
    | (go_at_call 45; (with_reducible refine (append_full H1.out.disk BB1.out HR.out HF.out HN.out).mono ?_); rintro e w2 ⟨rfl, hb⟩; have H2 := Aside0.mk (H1.out.below hb); clear hb))
  go_ret2
  exact ⟨rfl, H2.out⟩
theorem room_few {room : Int} {a d : Nat} (hr : room ≤ 1048576) (hF : (a : Int) ≤ room) (hn : ¬ (0 < d ∧ room - a < d)) : a + d ≤ 4194304 := by
  by_cases h : 0 < d
  · have : ¬ (room - a < d) := fun h' => hn ⟨h, h'⟩
    omega
  · omega
theorem append_yes {w : World} {B g : Nat} {room : Int} {F : List Int} {m : Nat} {A : Option Addr} {D : List Int} {cD : Nat} (h : Disk w B g room F m) (hB : B ≤ w.heap.size) (hr : room ≤ 1048576) (hF : (F.length : Int) ≤ room) (hD : Kd.C (Kd.int .u8) w A D.length D) (hm : m ≤ 100000) (hn : ¬ (0 < D.length ∧ room - F.length < D.length)) :
    Calls Try.prog 45 #[.pointer (some ⟨g, 0, none⟩), .string nameS, .slice A D.length cD] w fun e w' => e = .returned (.int .i64 0) ∧ Disk w' B g room (F ++ D) (m + 1) ∧ Below B w w' ∧ FsKept w w' := by
  by_cases h0 : D.length = 0
  · exact append_none h hB hr hF hD hm h0
  · exact append_fits h hB hr hF hD hm ⟨by omega, by have : ¬ (room - F.length < D.length) := fun h => hn ⟨by omega, h⟩; omega⟩
theorem step_bytes_ok {w0 w : World} {g : Nat} {room : Int} {F : List Int} {m : Nat} {Af : Option Addr} {cf : Nat} {n free : Int} {any : Bool} {Ad : Option Addr} {D : List Int} {cd k : Nat} (h : At w0 w g room F m (.slice Af F.length cf)) (hD : Kd.C (Kd.int .u8) w0 Ad D.length D) (hc : D.length ≤ cd) (hr : room ≤ 1048576) (hF : (F.length : Int) ≤ room) (hm : m ≤ 10000) (hn : ¬ (0 < D.length ∧ room - F.length < D.length)) :
    Calls Try.prog 28 #[.pointer (some ⟨g, 0, none⟩), .slice Af F.length cf, .agg #[.int .i64 3, .int .i64 n, .bool any, .slice Ad D.length cd], .int .i64 free] w fun e w' => ∃ v', e = .returned (.tuple #[v', .bool true]) ∧ At w0 w' g room (F ++ D) (m + 1) v' := by
  obtain ⟨G, hG⟩ : ∃ G, G = F ++ D := ⟨_, rfl⟩
  have HG := Aside0.mk hG
  rw [← hG]
  clear hG
  have HN := Aside0.mk hn
  clear hn
  have H0 := Aside0.mk h
  have HD := Aside0.mk hD
  have HC := Aside0.mk hc
  have HR := Aside0.mk hr
  have HF := Aside0.mk hF
  have HM := Aside0.mk hm
  have HFl := Aside0.mk (show F.length ≤ 1048576 by omega)
  have b0 := Aside0.mk (heap_alloc_new w (.cells #[.int .i64 3, .int .i64 n, .bool any, .slice Ad D.length cd] 59))
  have HL0 := Aside0.mk h.bel.size
  have ha0 := below_alloc (Below.refl w.heap.size w) (.cells #[.int .i64 3, .int .i64 n, .bool any, .slice Ad D.length cd] 59)
  have H1 := Aside0.mk (h.below ha0)
  have BB1 := Aside0.mk (Nat.le_trans HL0.out ha0.size)
  have g0 := (blk_cell b0.out 0).trans rfl
  have g3 := (blk_cell b0.out 3).trans rfl
  clear h hD hc hr hF hm ha0
  go_enter Try.func28, Try.ntmps28
  go_wp2_with (go_at_call 45; (with_reducible refine (append_yes H1.out.disk BB1.out HR.out HF.out (Kd.C_below HD.out H1.out.bel) (by have := HM.out; omega) HN.out).mono ?_); rintro e w2 ⟨rfl, hd, hb, hk⟩; have D2 := Aside0.mk hd; have O2 := Aside0.mk (R_fs H1.out.own hk u8_fs); have L2 := Aside0.mk (H1.out.bel.trans hb); have b2 := Aside0.mk (blk_fs b0.out hk ne59); have g3b := (blk_cell b2.out 3).trans rfl; clear hd hb hk)
  refine start_ (n := 7) (S := fun w' => w'.cell? ⟨w.heap.size, 3, none⟩ = some (.slice Ad D.length cd)) (ds := []) #[false, false, false, false, false, false, false] (by kernel_rfl) rfl rfl (g3b) (fun hHeld => ?_)
  have D3 := Aside0.mk (D2.out.below (below_drew1 (Below.refl _ _)))
  have O3 := Aside0.mk (Kd.R_drew O2.out)
  have L3 := Aside0.mk L2.out.drew
  have b3 := Aside0.mk (blk_drew b2.out)
  have DL := Aside0.mk (room_few HR.out HF.out HN.out)
  generalize w2.drew = w3 at D3 O3 L3 b3 hHeld ⊢
  refine pure_ (i := 0) (N := some 165) (v := ?_) (a' := ?_) #[true, false, false, false, false, false, false] rfl rfl (by kernel_rfl) (fun _ _ _ h => h) (Or.inl ⟨by rfl, ?_⟩) ?_ ?_
  rotate_left
  · intro w'
    go_simp
    with_reducible rfl
  rotate_left
  · simp only [Act.put, List.setIfInBounds_toArray, List.set_cons_zero, List.set_cons_succ, i64_w, i32_w]
    rfl
  refine pure_ (i := 2) (N := some 167) (v := ?_) (a' := ?_) #[true, false, true, false, false, false, false] rfl rfl (by kernel_rfl) (fun _ _ _ h => h) (Or.inl ⟨by rfl, ?_⟩) ?_ ?_
  rotate_left
  · intro w'
    go_simp
    with_reducible rfl
  rotate_left
  · simp only [Act.put, List.setIfInBounds_toArray, List.set_cons_zero, List.set_cons_succ, i64_w, i32_w]
    rfl
  refine take_ (i := 3) (N := some 168) (v := ?_) (a' := ?_) #[true, false, true, true, false, false, false] rfl rfl (by kernel_rfl) (fun _ _ _ h => h) (Or.inl ⟨by rfl, ?_⟩) hHeld ?_ ?_
  rotate_left
  · intro w' s0
    go_simp
    with_reducible rfl
  rotate_left
  · simp only [Act.put, List.setIfInBounds_toArray, List.set_cons_zero, List.set_cons_succ, i64_w, i32_w]
    rfl
  refine one_ (i := 1) (N := some 166) #[true, true, true, true, false, false, false] rfl rfl (by kernel_rfl) (by decide) (fun K hK => ?_)
  refine goes_ Try.func22 (by kernel_rfl) rfl #[.slice Af F.length cf] (by rfl) rfl rfl (by simp only [List.map_toArray, List.map_cons, List.map_nil]; rfl) ?_
  with_reducible refine (stookref00_Copy.calls Af cf F F w3 (Kd.R_reads' O3.out).2.2 (Kd.R_reads' O3.out).2.1 (copy_self HFl.out)).mono ?_
  rintro e w4 ⟨v, rfl, ho, hb⟩
  refine ⟨_, rfl, ?_⟩
  obtain ⟨Ac, cc, ec⟩ := Kd.R_slice ho
  subst ec
  have P4 := Aside0.mk ho
  have M4 := Aside0.mk hb
  have b4 := Aside0.mk (blk_below b3.out hb)
  clear ho hb
  refine hK.out _ _ ((blk_cell b4.out 3).trans rfl) (fun hHeld => ?_)
  clear hK K
  refine norm_ (a' := ?_) ?_ ?_
  rotate_left
  · show Act.put _ (some 166) _ = _
    simp only [Act.put, List.setIfInBounds_toArray, List.set_cons_zero, List.set_cons_succ, i64_w, i32_w]
    rfl
  refine one_ (i := 4) (N := some 169) #[true, true, true, true, true, false, false] rfl rfl (by kernel_rfl) (by decide) (fun K hK => ?_)
  refine Kd.R_append_rows_step (Kd.int .u8) (w0 := w3) w3.heap.size (by rfl) (.tmp 166) (.tmp 168) 22 5 (.int .u8 0) 1 rfl Try.underlying22 info5 rfl (by decide) (by omega) (.slice Ac F.length cc) F D Ad D.length cd (fun _ => True) (fun _ => False) rfl rfl P4.out (Kd.C_below HD.out (below_step L3.out M4.out)) (fun _ _ h => h) (fun _ h => h.elim) (fun _ _ => trivial) M4.out M4.out.size (by have := DL.out; omega) ?_
  intro v5 w5 ho hb hg hat
  rw [← HG.out] at ho
  obtain ⟨Ad5, cd5, ed⟩ := Kd.R_slice ho
  subst ed
  have O5 := Aside0.mk (Kd.R_lower ho L3.out.size)
  have D5 := Aside0.mk (D3.out.below hb)
  have L5 := Aside0.mk (below_step L3.out hb)
  have b5 := Aside0.mk (blk_below b3.out hb)
  clear ho hb hg hat
  refine hK.out _ _ ((blk_cell b5.out 3).trans rfl) (fun hHeld => ?_)
  clear hK K
  refine norm_ (a' := ?_) ?_ ?_
  rotate_left
  · show Act.put _ (some 169) _ = _
    simp only [Act.put, List.setIfInBounds_toArray, List.set_cons_zero, List.set_cons_succ, i64_w, i32_w]
    rfl
  refine pure_ (i := 5) (N := some 8) (v := ?_) (a' := ?_) #[true, true, true, true, true, true, false] rfl rfl (by kernel_rfl) (fun _ _ _ h => h) (Or.inl ⟨by rfl, ?_⟩) ?_ ?_
  rotate_left
  · intro w'
    go_simp
    with_reducible rfl
  rotate_left
  · simp only [Act.put, List.setIfInBounds_toArray, List.set_cons_zero, List.set_cons_succ, i64_w, i32_w]
    rfl
  refine pure_ (i := 6) (N := some 9) (v := ?_) (a' := ?_) #[true, true, true, true, true, true, true] rfl rfl (by kernel_rfl) (fun _ _ _ h => h) (Or.inl ⟨by rfl, ?_⟩) ?_ ?_
  rotate_left
  · intro w'
    go_simp
    with_reducible rfl
  rotate_left
  · simp only [Act.put, List.setIfInBounds_toArray, List.set_cons_zero, List.set_cons_succ, i64_w, i32_w]
    rfl
  refine done_ (by kernel_rfl) ?_
  go_wp2
  go_ret2
  exact ⟨_, rfl, ⟨by rw [HG.out]; exact D5.out, O5.out, L5.out⟩⟩
end Go.Proofs.Ytjefgdggjchhbaa.PAll
