/- shard.Make, Add, Seal, Read on a disk, walked by hand. Conditions: the disk lies in memory as told; what Head, Body, Foot, frame.Get answer is told. -/
import Derived.Test.YtjefgdggjchhbaaFsCreate
import Derived.Test.YtjefgdggjchhbaaPAllx9
import Derived.Test.YtjefgdggjchhbaaPAllx4
set_option linter.unusedVariables false
set_option linter.unusedSimpArgs false
namespace Go.Proofs.Ytjefgdggjchhbaa.PAll
open Go.RowKit Go.Proofs.YtjefgdggjchhbaaVW.PrintWords Go.Proofs.YtjefgdggjchhbaaVW.PrintLast Go.Proofs.YtjefgdggjchhbaaVW.PrintMore
attribute [local go_sem] max2_int min2_int max_two min_two
set_option maxHeartbeats 8000000
set_option maxRecDepth 100000
theorem D0.noname {w : World} {B g : Nat} {room : Int} {mf ms mn : Nat} (h : D0 w B g room mf ms mn) {s : ByteArray} : NoName w mn s := .inl h.seen
section
variable {w : World} {B g : Nat} {room : Int} {F : List Int} {m : Nat}
theorem disk_size (h : Disk w B g room F m) : Calls Try.prog 44 #[.pointer (some ⟨g, 0, none⟩), .string nameS] w fun e w' => e = .returned (.tuple #[.int .i64 (F.length : Int), .int .i64 0]) ∧ Below w.heap.size w w' := by
  obtain ⟨mf, ms, mn, x, rowf, acts, sure, now, row, rows, H⟩ := h
  obtain ⟨A, c, e⟩ := Kd.R_slice H.own
  subst e
  exact size_on H.fs H.seen H.files H.fl
theorem disk_no (h : Disk w B g room F m) {s : ByteArray} (hs : (s == nameS) = false) : Calls Try.prog 44 #[.pointer (some ⟨g, 0, none⟩), .string s] w fun e w' => e = .returned (.tuple #[.int .i64 0, .int .i64 7]) ∧ Below w.heap.size w w' := by
  obtain ⟨mf, ms, mn, x, rowf, acts, sure, now, row, rows, H⟩ := h
  exact size_no H.fs (.inr ⟨H.seen, hs⟩)
theorem disk_none (h : Disk w B g room F m) : Calls Try.prog 43 #[.pointer (some ⟨g, 0, none⟩)] w fun e w' => e = .returned (.bool false) ∧ Below w.heap.size w w' := by
  obtain ⟨mf, ms, mn, x, rowf, acts, sure, now, row, rows, H⟩ := h
  exact none_on H.fs (.inr ⟨H.seen, by decide⟩)
theorem disk_used (h : Disk w B g room F m) : Calls Try.prog 29 #[.pointer (some ⟨g, 0, none⟩)] w fun e w' => e = .returned (.int .i64 (F.length : Int)) ∧ Below w.heap.size w w' := by
  obtain ⟨mf, ms, mn, x, rowf, acts, sure, now, row, rows, H⟩ := h
  exact used_on H.fs
end
theorem make_bad {w : World} {B g : Nat} {room : Int} {mf ms mn : Nat} {n : Int} {k : Nat} {b : List Int} {q : Int} (H : D0 w B g room mf ms mn) (hB : B ≤ w.heap.size) (hh : shard_Head.f k n = some (b, q)) (he : q ≠ 0) :
    Calls Try.prog 25 #[.pointer (some ⟨g, 0, none⟩), .string nameS, .int .i64 n] w fun e w' => e = .returned (.int .i64 q) ∧ Below w.heap.size w w' := by
  have H0 := Aside0.mk H
  have HBs := Aside0.mk hB
  have HH := Aside0.mk hh
  have c1 : (q != 0) = true := bne_iff_ne.mpr he
  clear H hB hh
  go_enter Try.func25, Try.ntmps25
  go_wp2_with (first
    | (go_at_call 43; (with_reducible refine (none_on H0.out.fs H0.out.noname).mono ?_); rintro e w1 ⟨rfl, hb⟩; have H1 := Aside0.mk (H0.out.below hb); have B1 := Aside0.mk hb; clear hb)
    | (go_at_call 9; (with_reducible refine (shard_Head.calls k n b q w1 HH.out).mono ?_); rintro e w2 ⟨v, rfl, ho, hb⟩; obtain ⟨Ab, cb, eb⟩ := Kd.R_slice ho; subst eb; have H2 := Aside0.mk (H1.out.below hb); have B2 := Aside0.mk (below_step B1.out hb); have O2 := Aside0.mk ho; clear ho hb))
  go_ret
  exact ⟨rfl, B2.out⟩
theorem make_full {w : World} {B g : Nat} {room : Int} {mf ms mn : Nat} {n : Int} {k : Nat} {b : List Int}  (H : D0 w B g room mf ms mn) (hB : B ≤ w.heap.size) (hh : shard_Head.f k n = some (b, 0)) (hr : room ≤ 1048576) (h0 : 0 ≤ room) (hl : 0 < b.length) (hf : room < b.length) :
    Calls Try.prog 25 #[.pointer (some ⟨g, 0, none⟩), .string nameS, .int .i64 n] w fun e w' => e = .returned (.int .i64 9) ∧ Below B w w' := by
  have H0 := Aside0.mk H
  have HBs := Aside0.mk hB
  have HH := Aside0.mk hh
  have HR := Aside0.mk hr
  have HZ := Aside0.mk h0
  have HL := Aside0.mk hl
  have HF := Aside0.mk hf
  clear H hB hh hr h0 hl hf
  go_enter Try.func25, Try.ntmps25
  go_wp2_with (first
    | (go_at_call 43; (with_reducible refine (none_on H0.out.fs H0.out.noname).mono ?_); rintro e w1 ⟨rfl, hb⟩; have H1 := Aside0.mk (H0.out.below hb); have B1 := Aside0.mk hb; clear hb)
    | (go_at_call 9; (with_reducible refine (shard_Head.calls k n b 0 w1 HH.out).mono ?_); rintro e w2 ⟨v, rfl, ho, hb⟩; obtain ⟨Ab, cb, eb⟩ := Kd.R_slice ho; subst eb; have H2 := Aside0.mk (H1.out.below hb); have B2 := Aside0.mk (below_step B1.out hb); have O2 := Aside0.mk ho; clear ho hb)
    | (go_at_call 46; (with_reducible refine (create_on H2.out (Nat.le_trans HBs.out B2.out.size)).mono ?_); rintro e w3 ⟨rfl, hd, hb, hk⟩; have H3 := Aside0.mk hd; have B3 := Aside0.mk ((B2.out.mono HBs.out).trans hb); have O3 := Aside0.mk (R_fs O2.out hk u8_fs); clear hd hb hk)
    | (go_at_call 45; (with_reducible refine (append_full H3.out (Nat.le_trans HBs.out (B3.out.size)) HR.out (by simpa using HZ.out) ⟨HL.out, by have := HF.out; simpa using this⟩).mono ?_); rintro e w4 ⟨rfl, hb⟩; have B4 := Aside0.mk (B3.out.trans (hb.mono (Nat.le_trans HBs.out B3.out.size))); clear hb))
  go_ret
  exact ⟨rfl, B4.out⟩
theorem make_ok {w : World} {B g : Nat} {room : Int} {mf ms mn : Nat} {n : Int} {k : Nat} {b : List Int}  (H : D0 w B g room mf ms mn) (hB : B ≤ w.heap.size) (hh : shard_Head.f k n = some (b, 0)) (hr : room ≤ 1048576) (hl : 0 < b.length) (hf : (b.length : Int) ≤ room) :
    Calls Try.prog 25 #[.pointer (some ⟨g, 0, none⟩), .string nameS, .int .i64 n] w fun e w' => e = .returned (.int .i64 0) ∧ Disk w' B g room b 1 ∧ Below B w w' := by
  have H0 := Aside0.mk H
  have HBs := Aside0.mk hB
  have HH := Aside0.mk hh
  have HR := Aside0.mk hr
  have HL := Aside0.mk hl
  have HF := Aside0.mk hf
  clear H hB hh hr hl hf
  go_enter Try.func25, Try.ntmps25
  go_wp2_with (first
    | (go_at_call 43; (with_reducible refine (none_on H0.out.fs H0.out.noname).mono ?_); rintro e w1 ⟨rfl, hb⟩; have H1 := Aside0.mk (H0.out.below hb); have B1 := Aside0.mk hb; clear hb)
    | (go_at_call 9; (with_reducible refine (shard_Head.calls k n b 0 w1 HH.out).mono ?_); rintro e w2 ⟨v, rfl, ho, hb⟩; obtain ⟨Ab, cb, eb⟩ := Kd.R_slice ho; subst eb; have H2 := Aside0.mk (H1.out.below hb); have B2 := Aside0.mk (below_step B1.out hb); have O2 := Aside0.mk ho; clear ho hb)
    | (go_at_call 46; (with_reducible refine (create_on H2.out (Nat.le_trans HBs.out B2.out.size)).mono ?_); rintro e w3 ⟨rfl, hd, hb, hk⟩; have H3 := Aside0.mk hd; have B3 := Aside0.mk ((B2.out.mono HBs.out).trans hb); have O3 := Aside0.mk (R_fs O2.out hk u8_fs); clear hd hb hk)
    | (go_at_call 45; (with_reducible refine (append_fits H3.out (Nat.le_trans HBs.out (B3.out.size)) HR.out (by have := HF.out; simp; omega) (Kd.R_reads' O3.out).2.2 (by omega) ⟨HL.out, by have := HF.out; simpa using this⟩).mono ?_); rintro e w4 ⟨rfl, hd, hb, hk⟩; have H4 := Aside0.mk hd; have B4 := Aside0.mk (B3.out.trans hb); clear hd hb hk))
  go_ret
  exact ⟨rfl, H4.out, B4.out⟩
theorem add_bad {w : World} {B g : Nat} {room : Int} {F : List Int} {m : Nat} {A : Option Addr} {D : List Int} {cD k : Nat} {b : List Int} {q : Int} (h : Disk w B g room F m) (hB : B ≤ w.heap.size) (hD : Kd.C (Kd.int .u8) w A D.length D) (hc : D.length ≤ cD) (hh : shard_Body.f k D = some (b, q)) (he : q ≠ 0) :
    Calls Try.prog 23 #[.pointer (some ⟨g, 0, none⟩), .string nameS, .slice A D.length cD] w fun e w' => e = .returned (.tuple #[.int .i64 0, .int .i64 q]) ∧ Below w.heap.size w w' := by
  have H0 := Aside0.mk h
  have HBs := Aside0.mk hB
  have HH := Aside0.mk hh
  have HD := Aside0.mk hD
  have HC := Aside0.mk hc
  have c1 : (q != 0) = true := bne_iff_ne.mpr he
  clear h hB hD hc hh
  go_enter Try.func23, Try.ntmps23
  go_wp2_with (first
    | (go_at_call 43; (with_reducible refine (disk_none H0.out).mono ?_); rintro e w1 ⟨rfl, hb⟩; have H1 := Aside0.mk (H0.out.below hb); have B1 := Aside0.mk hb; clear hb)
    | (go_at_call 11; (with_reducible refine (shard_Body.calls k A cD D b q w1 (Kd.C_below HD.out B1.out) HC.out HH.out).mono ?_); rintro e w2 ⟨v, rfl, ho, hb⟩; obtain ⟨Ab, cb, eb⟩ := Kd.R_slice ho; subst eb; have H2 := Aside0.mk (H1.out.below hb); have B2 := Aside0.mk (below_step B1.out hb); have O2 := Aside0.mk ho; clear ho hb))
  go_ret2
  exact ⟨rfl, B2.out⟩
theorem add_full {w : World} {B g : Nat} {room : Int} {F : List Int} {m : Nat} {A : Option Addr} {D : List Int} {cD k : Nat} {b : List Int}  (h : Disk w B g room F m) (hB : B ≤ w.heap.size) (hD : Kd.C (Kd.int .u8) w A D.length D) (hc : D.length ≤ cD) (hh : shard_Body.f k D = some (b, 0)) (hr : room ≤ 1048576) (hf0 : (F.length : Int) ≤ room) (hl : 0 < b.length) (hf : room - F.length < b.length) :
    Calls Try.prog 23 #[.pointer (some ⟨g, 0, none⟩), .string nameS, .slice A D.length cD] w fun e w' => e = .returned (.tuple #[.int .i64 0, .int .i64 9]) ∧ Below w.heap.size w w' := by
  have H0 := Aside0.mk h
  have HBs := Aside0.mk hB
  have HH := Aside0.mk hh
  have HD := Aside0.mk hD
  have HC := Aside0.mk hc
  have HR := Aside0.mk hr
  have HZ := Aside0.mk hf0
  have HL := Aside0.mk hl
  have HF := Aside0.mk hf
  clear h hB hD hc hh hr hf0 hl hf
  go_enter Try.func23, Try.ntmps23
  go_wp2_with (first
    | (go_at_call 43; (with_reducible refine (disk_none H0.out).mono ?_); rintro e w1 ⟨rfl, hb⟩; have H1 := Aside0.mk (H0.out.below hb); have B1 := Aside0.mk hb; clear hb)
    | (go_at_call 11; (with_reducible refine (shard_Body.calls k A cD D b 0 w1 (Kd.C_below HD.out B1.out) HC.out HH.out).mono ?_); rintro e w2 ⟨v, rfl, ho, hb⟩; obtain ⟨Ab, cb, eb⟩ := Kd.R_slice ho; subst eb; have H2 := Aside0.mk (H1.out.below hb); have B2 := Aside0.mk (below_step B1.out hb); have O2 := Aside0.mk ho; clear ho hb)
    | (go_at_call 44; (with_reducible refine (disk_size H2.out).mono ?_); rintro e w3 ⟨rfl, hb⟩; have H3 := Aside0.mk (H2.out.below hb); have B3 := Aside0.mk (below_step B2.out hb); have O3 := Aside0.mk (Kd.R_below O2.out hb); clear hb)
    | (go_at_call 45; (with_reducible refine (append_full H3.out (Nat.le_trans HBs.out B3.out.size) HR.out HZ.out ⟨HL.out, HF.out⟩).mono ?_); rintro e w4 ⟨rfl, hb⟩; have B4 := Aside0.mk (below_step B3.out hb); clear hb))
  go_ret2
  exact ⟨rfl, B4.out⟩
theorem add_ok {w : World} {B g : Nat} {room : Int} {F : List Int} {m : Nat} {A : Option Addr} {D : List Int} {cD k : Nat} {b : List Int}  (h : Disk w B g room F m) (hB : B ≤ w.heap.size) (hD : Kd.C (Kd.int .u8) w A D.length D) (hc : D.length ≤ cD) (hh : shard_Body.f k D = some (b, 0)) (hr : room ≤ 1048576) (hf0 : (F.length : Int) ≤ room) (hl : 0 < b.length) (hf : (b.length : Int) ≤ room - F.length) (hm : m ≤ 100000) :
    Calls Try.prog 23 #[.pointer (some ⟨g, 0, none⟩), .string nameS, .slice A D.length cD] w fun e w' => e = .returned (.tuple #[.int .i64 (F.length : Int), .int .i64 0]) ∧ Disk w' B g room (F ++ b) (m + 1) ∧ Below B w w' ∧ FsKept w w' := by
  have H0 := Aside0.mk h
  have HBs := Aside0.mk hB
  have HH := Aside0.mk hh
  have HD := Aside0.mk hD
  have HC := Aside0.mk hc
  have HR := Aside0.mk hr
  have HZ := Aside0.mk hf0
  have HL := Aside0.mk hl
  have HF := Aside0.mk hf
  have HM := Aside0.mk hm
  clear h hB hD hc hh hr hf0 hl hf hm
  go_enter Try.func23, Try.ntmps23
  go_wp2_with (first
    | (go_at_call 43; (with_reducible refine (disk_none H0.out).mono ?_); rintro e w1 ⟨rfl, hb⟩; have H1 := Aside0.mk (H0.out.below hb); have B1 := Aside0.mk hb; clear hb)
    | (go_at_call 11; (with_reducible refine (shard_Body.calls k A cD D b 0 w1 (Kd.C_below HD.out B1.out) HC.out HH.out).mono ?_); rintro e w2 ⟨v, rfl, ho, hb⟩; obtain ⟨Ab, cb, eb⟩ := Kd.R_slice ho; subst eb; have H2 := Aside0.mk (H1.out.below hb); have B2 := Aside0.mk (below_step B1.out hb); have O2 := Aside0.mk ho; clear ho hb)
    | (go_at_call 44; (with_reducible refine (disk_size H2.out).mono ?_); rintro e w3 ⟨rfl, hb⟩; have H3 := Aside0.mk (H2.out.below hb); have B3 := Aside0.mk (below_step B2.out hb); have O3 := Aside0.mk (Kd.R_below O2.out hb); clear hb)
    | (go_at_call 45; (with_reducible refine (append_fits H3.out (Nat.le_trans HBs.out B3.out.size) HR.out HZ.out (Kd.R_reads' O3.out).2.2 HM.out ⟨HL.out, HF.out⟩).mono ?_); rintro e w4 ⟨rfl, hd, hb, hk⟩; have H4 := Aside0.mk hd; have B4 := Aside0.mk ((B3.out.mono HBs.out).trans hb); have K4 := Aside0.mk ((FsKept.below B3.out).trans hk); clear hd hb hk))
  go_ret2
  exact ⟨rfl, H4.out, B4.out, K4.out⟩
theorem seal_bad {w : World} {B g : Nat} {room : Int} {F : List Int} {m k : Nat} {b : List Int} {q : Int} (h : Disk w B g room F m) (hB : B ≤ w.heap.size) (hh : shard_Foot.f k F = some (b, q)) (hF : F.length ≤ 1048576) (he : q ≠ 0) :
    Calls Try.prog 26 #[.pointer (some ⟨g, 0, none⟩), .string nameS] w fun e w' => e = .returned (.int .i64 q) ∧ Below w.heap.size w w' := by
  have H0 := Aside0.mk h
  have HBs := Aside0.mk hB
  have HH := Aside0.mk hh
  have HFl := Aside0.mk hF
  have c1 : (q != 0) = true := bne_iff_ne.mpr he
  clear h hB hh hF
  go_enter Try.func26, Try.ntmps26
  go_wp2_with (first
    | (go_at_call 44; (with_reducible refine (disk_size H0.out).mono ?_); rintro e w1 ⟨rfl, hb⟩; have H1 := Aside0.mk (H0.out.below hb); have B1 := Aside0.mk hb; clear hb)
    | (go_at_call 30; (with_reducible refine (fread_on H1.out (Nat.le_trans HBs.out B1.out.size) HFl.out (Int.le_refl _)).mono ?_); rintro e w2 ⟨v, rfl, ho, hb⟩; obtain ⟨Ab, cb, eb⟩ := Kd.R_slice ho; subst eb; have H2 := Aside0.mk (H1.out.below hb); have B2 := Aside0.mk (below_step B1.out hb); have O2 := Aside0.mk ho; clear ho hb)
    | (go_at_call 19; (with_reducible refine (shard_Foot.calls k Ab cb F b q w2 (Kd.R_reads' O2.out).2.2 (Kd.R_reads' O2.out).2.1 HH.out).mono ?_); rintro e w3 ⟨v, rfl, ho, hb⟩; obtain ⟨Ac, cc, ec⟩ := Kd.R_slice ho; subst ec; have H3 := Aside0.mk (H2.out.below hb); have B3 := Aside0.mk (below_step B2.out hb); have O3 := Aside0.mk ho; clear ho hb))
  go_ret
  exact ⟨rfl, B3.out⟩
theorem seal_full {w : World} {B g : Nat} {room : Int} {F : List Int} {m k : Nat} {b : List Int}  (h : Disk w B g room F m) (hB : B ≤ w.heap.size) (hh : shard_Foot.f k F = some (b, 0)) (hF : F.length ≤ 1048576) (hr : room ≤ 1048576) (hf0 : (F.length : Int) ≤ room) (hl : 0 < b.length) (hf : room - F.length < b.length) :
    Calls Try.prog 26 #[.pointer (some ⟨g, 0, none⟩), .string nameS] w fun e w' => e = .returned (.int .i64 9) ∧ Below w.heap.size w w' := by
  have H0 := Aside0.mk h
  have HBs := Aside0.mk hB
  have HH := Aside0.mk hh
  have HFl := Aside0.mk hF
  have HR := Aside0.mk hr
  have HZ := Aside0.mk hf0
  have HL := Aside0.mk hl
  have HF := Aside0.mk hf
  clear h hB hh hF hr hf0 hl hf
  go_enter Try.func26, Try.ntmps26
  go_wp2_with (first
    | (go_at_call 44; (with_reducible refine (disk_size H0.out).mono ?_); rintro e w1 ⟨rfl, hb⟩; have H1 := Aside0.mk (H0.out.below hb); have B1 := Aside0.mk hb; clear hb)
    | (go_at_call 30; (with_reducible refine (fread_on H1.out (Nat.le_trans HBs.out B1.out.size) HFl.out (Int.le_refl _)).mono ?_); rintro e w2 ⟨v, rfl, ho, hb⟩; obtain ⟨Ab, cb, eb⟩ := Kd.R_slice ho; subst eb; have H2 := Aside0.mk (H1.out.below hb); have B2 := Aside0.mk (below_step B1.out hb); have O2 := Aside0.mk ho; clear ho hb)
    | (go_at_call 19; (with_reducible refine (shard_Foot.calls k Ab cb F b 0 w2 (Kd.R_reads' O2.out).2.2 (Kd.R_reads' O2.out).2.1 HH.out).mono ?_); rintro e w3 ⟨v, rfl, ho, hb⟩; obtain ⟨Ac, cc, ec⟩ := Kd.R_slice ho; subst ec; have H3 := Aside0.mk (H2.out.below hb); have B3 := Aside0.mk (below_step B2.out hb); have O3 := Aside0.mk ho; clear ho hb)
    | (go_at_call 45; (with_reducible refine (append_full H3.out (Nat.le_trans HBs.out B3.out.size) HR.out HZ.out ⟨HL.out, HF.out⟩).mono ?_); rintro e w4 ⟨rfl, hb⟩; have B4 := Aside0.mk (below_step B3.out hb); clear hb))
  go_ret
  exact ⟨rfl, B4.out⟩
theorem seal_ok {w : World} {B g : Nat} {room : Int} {F : List Int} {m k : Nat} {b : List Int}  (h : Disk w B g room F m) (hB : B ≤ w.heap.size) (hh : shard_Foot.f k F = some (b, 0)) (hF : F.length ≤ 1048576) (hr : room ≤ 1048576) (hf0 : (F.length : Int) ≤ room) (hl : 0 < b.length) (hf : (b.length : Int) ≤ room - F.length) (hm : m ≤ 100000) :
    Calls Try.prog 26 #[.pointer (some ⟨g, 0, none⟩), .string nameS] w fun e w' => e = .returned (.int .i64 0) ∧ Disk w' B g room (F ++ b) 0 ∧ Below B w w' ∧ FsKept w w' := by
  have H0 := Aside0.mk h
  have HBs := Aside0.mk hB
  have HH := Aside0.mk hh
  have HFl := Aside0.mk hF
  have HR := Aside0.mk hr
  have HZ := Aside0.mk hf0
  have HL := Aside0.mk hl
  have HF := Aside0.mk hf
  have HM := Aside0.mk hm
  clear h hB hh hF hr hf0 hl hf hm
  go_enter Try.func26, Try.ntmps26
  go_wp2_with (first
    | (go_at_call 44; (with_reducible refine (disk_size H0.out).mono ?_); rintro e w1 ⟨rfl, hb⟩; have H1 := Aside0.mk (H0.out.below hb); have B1 := Aside0.mk hb; clear hb)
    | (go_at_call 30; (with_reducible refine (fread_on H1.out (Nat.le_trans HBs.out B1.out.size) HFl.out (Int.le_refl _)).mono ?_); rintro e w2 ⟨v, rfl, ho, hb⟩; obtain ⟨Ab, cb, eb⟩ := Kd.R_slice ho; subst eb; have H2 := Aside0.mk (H1.out.below hb); have B2 := Aside0.mk (below_step B1.out hb); have O2 := Aside0.mk ho; clear ho hb)
    | (go_at_call 19; (with_reducible refine (shard_Foot.calls k Ab cb F b 0 w2 (Kd.R_reads' O2.out).2.2 (Kd.R_reads' O2.out).2.1 HH.out).mono ?_); rintro e w3 ⟨v, rfl, ho, hb⟩; obtain ⟨Ac, cc, ec⟩ := Kd.R_slice ho; subst ec; have H3 := Aside0.mk (H2.out.below hb); have B3 := Aside0.mk (below_step B2.out hb); have O3 := Aside0.mk ho; clear ho hb)
    | (go_at_call 45; (with_reducible refine (append_fits H3.out (Nat.le_trans HBs.out B3.out.size) HR.out HZ.out (Kd.R_reads' O3.out).2.2 HM.out ⟨HL.out, HF.out⟩).mono ?_); rintro e w4 ⟨rfl, hd, hb, hk⟩; have H4 := Aside0.mk hd; have B4 := Aside0.mk ((B3.out.mono HBs.out).trans hb); have K4 := Aside0.mk ((FsKept.below B3.out).trans hk); clear hd hb hk)
    | (go_at_call 47; (with_reducible refine (sync_on H4.out (Nat.le_trans HBs.out B4.out.size) (by have := HZ.out; have := HF.out; have := HR.out; rw [List.length_append]; omega)).mono ?_); rintro e w5 ⟨rfl, hd, hb, hk⟩; have H5 := Aside0.mk hd; have B5 := Aside0.mk (B4.out.trans hb); have K5 := Aside0.mk (K4.out.trans hk); clear hd hb hk))
  go_ret
  exact ⟨rfl, H5.out, B5.out, K5.out⟩
/-- What Read hands out: nothing, or bytes of new memory, with no room behind them. -/
def Sp (w : World) (base : Nat) (v : Value) (xs : List Int) : Prop := (v = .slice none 0 0 ∧ xs = []) ∨
  ∃ (b off : Nat), v = .slice (some ⟨b, off, none⟩) xs.length xs.length ∧ base ≤ b ∧ b < w.heap.size ∧ xs.length ≤ 9223372036854775807 ∧ ∀ j, j < xs.length → w.cell? ⟨b, off + j, none⟩ = some (.int .u8 (xs.getD j 0)) ∧ w.frozen? ⟨b, off + j, none⟩ = false
theorem sread_neg {w : World} {B g : Nat} {room : Int} {F : List Int} {m k : Nat} {at_ : Int} (h : Disk w B g room F m) (hB : B ≤ w.heap.size) (hF : F.length ≤ 1048576) (ha : at_ < 0) :
    Calls Try.prog 24 #[.pointer (some ⟨g, 0, none⟩), .string nameS, .int .i64 at_] w fun e w' => e = .returned (.tuple #[.slice none 0 0, .int .i64 2]) ∧ Below w.heap.size w w' := by
  have H0 := Aside0.mk h
  have HBs := Aside0.mk hB
  have HFl := Aside0.mk hF
  have c1 : decide (at_ < 0) = true := decide_eq_true ha
  clear h hB hF
  go_enter Try.func24, Try.ntmps24
  go_wp2_with (first
    | (go_at_call 44; (with_reducible refine (disk_size H0.out).mono ?_); rintro e w1 ⟨rfl, hb⟩; have H1 := Aside0.mk (H0.out.below hb); have B1 := Aside0.mk hb; clear hb)
    | (go_at_call 30; (with_reducible refine (fread_on H1.out (Nat.le_trans HBs.out B1.out.size) HFl.out (Int.le_refl _)).mono ?_); rintro e w2 ⟨v, rfl, ho, hb⟩; obtain ⟨Ab, cb, eb⟩ := Kd.R_slice ho; subst eb; have H2 := Aside0.mk (H1.out.below hb); have B2 := Aside0.mk (below_step B1.out hb); have O2 := Aside0.mk ho; clear ho hb))
  go_ret2
  exact ⟨rfl, B2.out⟩
theorem sread_err {w : World} {B g : Nat} {room : Int} {F : List Int} {m k : Nat} {at_ : Int} (h : Disk w B g room F m) (hB : B ≤ w.heap.size) (hF : F.length ≤ 1048576) {p : List Int} {nx q : Int} (ha : ¬ at_ < 0) (hg : frame_Get.f k F at_ = some (p, nx, q)) (hq : q ≠ 0) :
    Calls Try.prog 24 #[.pointer (some ⟨g, 0, none⟩), .string nameS, .int .i64 at_] w fun e w' => e = .returned (.tuple #[.slice none 0 0, .int .i64 q]) ∧ Below w.heap.size w w' := by
  have H0 := Aside0.mk h
  have HBs := Aside0.mk hB
  have HFl := Aside0.mk hF
  have HGt := Aside0.mk hg
  have c1 : (q != 0) = true := bne_iff_ne.mpr hq
  clear h hB hF hg
  go_enter Try.func24, Try.ntmps24
  go_wp2_with (first
    | (go_at_call 44; (with_reducible refine (disk_size H0.out).mono ?_); rintro e w1 ⟨rfl, hb⟩; have H1 := Aside0.mk (H0.out.below hb); have B1 := Aside0.mk hb; clear hb)
    | (go_at_call 30; (with_reducible refine (fread_on H1.out (Nat.le_trans HBs.out B1.out.size) HFl.out (Int.le_refl _)).mono ?_); rintro e w2 ⟨v, rfl, ho, hb⟩; obtain ⟨Ab, cb, eb⟩ := Kd.R_slice ho; subst eb; have H2 := Aside0.mk (H1.out.below hb); have B2 := Aside0.mk (below_step B1.out hb); have O2 := Aside0.mk ho; clear ho hb)
    | (go_at_call 37; (with_reducible refine (frame_Get.calls k Ab cb F at_ p nx q w2 (Kd.R_reads' O2.out).2.2 (Kd.R_reads' O2.out).2.1 HGt.out).mono ?_); rintro e w3 ⟨v, rfl, ho, hb⟩; have B3 := Aside0.mk (below_step B2.out hb); obtain ⟨Ac, cc, ec⟩ := Kd.R_slice ho; subst ec; have O3 := Aside0.mk ho; clear ho hb))
  go_ret2
  exact ⟨rfl, B3.out⟩
theorem sread_nil {w : World} {B g : Nat} {room : Int} {F : List Int} {m k : Nat} {at_ : Int} (h : Disk w B g room F m) (hB : B ≤ w.heap.size) (hF : F.length ≤ 1048576) {nx : Int} (ha : ¬ at_ < 0) (hg : frame_Get.f k F at_ = some ([], nx, 0)) :
    Calls Try.prog 24 #[.pointer (some ⟨g, 0, none⟩), .string nameS, .int .i64 at_] w fun e w' => e = .returned (.tuple #[.slice none 0 0, .int .i64 5]) ∧ Below w.heap.size w w' := by
  have H0 := Aside0.mk h
  have HBs := Aside0.mk hB
  have HFl := Aside0.mk hF
  have HGt := Aside0.mk hg
  clear h hB hF hg
  go_enter Try.func24, Try.ntmps24
  go_wp2_with (first
    | (go_at_call 44; (with_reducible refine (disk_size H0.out).mono ?_); rintro e w1 ⟨rfl, hb⟩; have H1 := Aside0.mk (H0.out.below hb); have B1 := Aside0.mk hb; clear hb)
    | (go_at_call 30; (with_reducible refine (fread_on H1.out (Nat.le_trans HBs.out B1.out.size) HFl.out (Int.le_refl _)).mono ?_); rintro e w2 ⟨v, rfl, ho, hb⟩; obtain ⟨Ab, cb, eb⟩ := Kd.R_slice ho; subst eb; have H2 := Aside0.mk (H1.out.below hb); have B2 := Aside0.mk (below_step B1.out hb); have O2 := Aside0.mk ho; clear ho hb)
    | (go_at_call 37; (with_reducible refine (frame_Get.calls k Ab cb F at_ [] nx 0 w2 (Kd.R_reads' O2.out).2.2 (Kd.R_reads' O2.out).2.1 HGt.out).mono ?_); rintro e w3 ⟨v, rfl, ho, hb⟩; have B3 := Aside0.mk (below_step B2.out hb); obtain ⟨Ac, cc, ec⟩ := Kd.R_slice ho; subst ec; have O3 := Aside0.mk ho; clear ho hb))
  go_ret2
  exact ⟨rfl, B3.out⟩
theorem sread_other {w : World} {B g : Nat} {room : Int} {F : List Int} {m k : Nat} {at_ : Int} (h : Disk w B g room F m) (hB : B ≤ w.heap.size) (hF : F.length ≤ 1048576) {p : List Int} {nx x0 : Int} (ha : ¬ at_ < 0) (hg : frame_Get.f k F at_ = some (p, nx, 0)) (hp : 0 < p.length) (hx : rdOf (0 : Int) p 0 = x0) (h0 : x0 ≠ 114) :
    Calls Try.prog 24 #[.pointer (some ⟨g, 0, none⟩), .string nameS, .int .i64 at_] w fun e w' => e = .returned (.tuple #[.slice none 0 0, .int .i64 5]) ∧ Below w.heap.size w w' := by
  have H0 := Aside0.mk h
  have HBs := Aside0.mk hB
  have HFl := Aside0.mk hF
  have HGt := Aside0.mk hg
  have HP := Aside0.mk hp
  have HX := Aside0.mk hx
  have l1 : ((p.length : Int) == 0) = false := beq_eq_false_iff_ne.mpr (by omega)
  have l2 : (p.length == 0) = false := beq_eq_false_iff_ne.mpr (by omega)
  have l3 : ((0 : Int) < (p.length : Int)) = True := eq_true (by omega)
  have l4 : (0 < p.length) = True := eq_true hp
  have c1 : (x0 != 114) = true := bne_iff_ne.mpr h0
  clear h hB hF hg hp hx
  go_enter Try.func24, Try.ntmps24
  go_wp2_with (first
    | (go_at_call 44; (with_reducible refine (disk_size H0.out).mono ?_); rintro e w1 ⟨rfl, hb⟩; have H1 := Aside0.mk (H0.out.below hb); have B1 := Aside0.mk hb; clear hb)
    | (go_at_call 30; (with_reducible refine (fread_on H1.out (Nat.le_trans HBs.out B1.out.size) HFl.out (Int.le_refl _)).mono ?_); rintro e w2 ⟨v, rfl, ho, hb⟩; obtain ⟨Ab, cb, eb⟩ := Kd.R_slice ho; subst eb; have H2 := Aside0.mk (H1.out.below hb); have B2 := Aside0.mk (below_step B1.out hb); have O2 := Aside0.mk ho; clear ho hb)
    | (go_at_call 37; (with_reducible refine (frame_Get.calls k Ab cb F at_ p nx 0 w2 (Kd.R_reads' O2.out).2.2 (Kd.R_reads' O2.out).2.1 HGt.out).mono ?_); rintro e w3 ⟨v, rfl, ho, hb⟩; have B3 := Aside0.mk (below_step B2.out hb); obtain ⟨gp, cc, ec, hgb, hgl, _⟩ := Kd.R_form ho HP.out; subst ec; have O3 := Aside0.mk ho; have G3 := Aside0.mk (And.intro hgb hgl); have cx := (Kd.R_cell (0 : Int) ho 0 (Int.le_refl _) (by have := HP.out; omega)).1; rw [HX.out] at cx; rw [show (0 : Int).toNat = 0 from rfl] at cx; clear hgb hgl; clear ho hb))
  go_ret2
  exact ⟨rfl, B3.out⟩
theorem cut_tail {P : Program} (t e : TypeId) {i : TypeInfo} (ht : P.underlying t = some (.slice e)) (hi : P.info? e = some i) (hsz : i.size = 1) (g n c n1 : Nat) (h1 : n = n1 + 1) (hc : n ≤ c) :
    ∃ o : Nat, (∀ W : World, (Instr.slice t (.slice (some ⟨g, 0, none⟩) n c) (some (.int .i64 1)) (some (.int .i64 (n : Int))) (some (.int .i64 (n : Int)))).run P W = .ok (.slice (some ⟨g, o, none⟩) n1 n1) W) ∧ (0 < n1 → o = 1) := by
  refine ⟨if n = 1 then 0 else 1, fun W => ?_, fun h => by rw [if_neg (by omega)]⟩
  rw [cut_mid_cap (P := P) t e .i64 .i64 .i64 ht hi 1 hsz (some ⟨g, 0, none⟩) n c 1 (n : Int) (by decide) (by omega) (Int.le_refl _) hc W]
  rw [show (n : Int).toNat = n from rfl, show (1 : Int).toNat = 1 from rfl, show n - 1 = n1 by omega]
  by_cases hn : n = 1
  · rw [if_pos hn, if_pos hn]
  · rw [if_neg hn, if_neg hn]
    simp [Addr.add]
theorem sp_of_R {w : World} {base : Nat} {ok : Nat → Prop} {g c o : Nat} {p R : List Int} (h : Kd.R (Kd.int .u8) 5 w base ok (.slice (some ⟨g, 0, none⟩) p.length c) p) (hb : base ≤ g) (hg : g < w.heap.size) (hR : R = p.drop 1) (ho : 0 < R.length → o = 1) : Sp w base (.slice (some ⟨g, o, none⟩) R.length R.length) R := by
  have hq := (Kd.reads_of_C (d := (0 : Int)) (h1 := fun _ => rfl) (Kd.R_reads' h).2.2).2.1
  refine .inr ⟨g, o, rfl, hb, hg, by rw [hR, List.length_drop]; omega, fun j hj => ?_⟩
  have h1 := ho (by omega)
  subst h1
  have hl : R.length = p.length - 1 := by rw [hR, List.length_drop]
  have := Kd.R_cell (0 : Int) h ((j + 1 : Nat) : Int) (by omega) (by omega)
  rw [show ((j + 1 : Nat) : Int).toNat = 1 + j by omega] at this
  refine ⟨this.1.trans ?_, this.2⟩
  rw [hR]
  simp only [rdOf, List.getD_eq_getElem?_getD, List.getElem?_drop]
  rw [show ((j + 1 : Nat) : Int).toNat = 1 + j by omega]
theorem Sp.reads {w : World} {base : Nat} {v : Value} {xs : List Int} (h : Sp w base v xs) : ∃ A c, v = .slice A xs.length c ∧ xs.length ≤ c ∧ Kd.C (Kd.int .u8) w A xs.length xs := by
  rcases h with ⟨rfl, rfl⟩ | ⟨b, off, rfl, hb, hl, hq, hc⟩
  · exact ⟨none, 0, rfl, Nat.le_refl _, (Kd.R_reads' (Kd.R_nil (Kd.int .u8) 5 w 0 (fun _ => True))).2.2⟩
  · refine ⟨_, _, rfl, Nat.le_refl _, Kd.C_of_reads (d := (0 : Int)) (h1 := fun _ => rfl) ⟨rfl, hq, fun h0 => ⟨_, rfl, fun j hj => ?_⟩⟩⟩
    rw [show (⟨b, off, none⟩ : Addr).add j = ⟨b, off + j, none⟩ by unfold Addr.add; split <;> simp_all]
    exact (hc j hj).1
theorem sread_ok {w : World} {B g : Nat} {room : Int} {F : List Int} {m k : Nat} {at_ : Int} (h : Disk w B g room F m) (hB : B ≤ w.heap.size) (hF : F.length ≤ 1048576) {p : List Int} {nx : Int} (ha : ¬ at_ < 0) (hg : frame_Get.f k F at_ = some (p, nx, 0)) (hp : 0 < p.length) (hx : rdOf (0 : Int) p 0 = 114) {R : List Int} (hR : R = p.drop 1) :
    Calls Try.prog 24 #[.pointer (some ⟨g, 0, none⟩), .string nameS, .int .i64 at_] w fun e w' => ∃ v, e = .returned (.tuple #[v, .int .i64 0]) ∧ Sp w' w.heap.size v R ∧ Below w.heap.size w w' := by
  have H0 := Aside0.mk h
  have HBs := Aside0.mk hB
  have HFl := Aside0.mk hF
  have HGt := Aside0.mk hg
  have HP := Aside0.mk hp
  have HX := Aside0.mk hx
  have l1 : ((p.length : Int) == 0) = false := beq_eq_false_iff_ne.mpr (by omega)
  have l2 : (p.length == 0) = false := beq_eq_false_iff_ne.mpr (by omega)
  have l3 : ((0 : Int) < (p.length : Int)) = True := eq_true (by omega)
  have l4 : (0 < p.length) = True := eq_true hp
  have HRd := Aside0.mk hR
  have HRL := Aside0.mk (show p.length = R.length + 1 by rw [hR, List.length_drop]; omega)
  obtain ⟨i5, hi5, _, hs5, _⟩ := info_parts info5
  have HI5 := Aside0.mk hi5
  have HS5 := Aside0.mk hs5
  clear h hB hF hg hp hx hR hi5 hs5
  go_enter Try.func24, Try.ntmps24
  go_wp2_with (first
    | (go_at_call 44; (with_reducible refine (disk_size H0.out).mono ?_); rintro e w1 ⟨rfl, hb⟩; have H1 := Aside0.mk (H0.out.below hb); have B1 := Aside0.mk hb; clear hb)
    | (go_at_call 30; (with_reducible refine (fread_on H1.out (Nat.le_trans HBs.out B1.out.size) HFl.out (Int.le_refl _)).mono ?_); rintro e w2 ⟨v, rfl, ho, hb⟩; obtain ⟨Ab, cb, eb⟩ := Kd.R_slice ho; subst eb; have H2 := Aside0.mk (H1.out.below hb); have B2 := Aside0.mk (below_step B1.out hb); have O2 := Aside0.mk ho; clear ho hb)
    | (go_at_call 37; (with_reducible refine (frame_Get.calls k Ab cb F at_ p nx 0 w2 (Kd.R_reads' O2.out).2.2 (Kd.R_reads' O2.out).2.1 HGt.out).mono ?_); rintro e w3 ⟨v, rfl, ho, hb⟩; have B3 := Aside0.mk (below_step B2.out hb); obtain ⟨gp, cc, ec, hgb, hgl, _⟩ := Kd.R_form ho HP.out; subst ec; have O3 := Aside0.mk ho; have G3 := Aside0.mk (And.intro hgb hgl); have cx := (Kd.R_cell (0 : Int) ho 0 (Int.le_refl _) (by have := HP.out; omega)).1; rw [HX.out] at cx; rw [show (0 : Int).toNat = 0 from rfl] at cx; obtain ⟨oz, hsl, hoz⟩ := cut_tail (P := Try.prog) 22 5 Try.underlying22 HI5.out HS5.out gp p.length cc R.length HRL.out (Kd.R_reads' ho).2.1; have HOZ := Aside0.mk hoz; clear hgb hgl hoz; clear ho hb))
  go_ret2
  exact ⟨_, rfl, sp_of_R (Kd.R_lower O3.out B2.out.size) (Nat.le_trans B2.out.size G3.out.1) G3.out.2 HRd.out HOZ.out, B3.out⟩
theorem sread_none {w : World} {B g : Nat} {room : Int} {F : List Int} {m : Nat} {at_ : Int} {s : ByteArray} (h : Disk w B g room F m) (hs : (s == nameS) = false) :
    Calls Try.prog 24 #[.pointer (some ⟨g, 0, none⟩), .string s, .int .i64 at_] w fun e w' => e = .returned (.tuple #[.slice none 0 0, .int .i64 7]) ∧ Below w.heap.size w w' := by
  have H0 := Aside0.mk h
  have HS := Aside0.mk hs
  clear h hs
  go_enter Try.func24, Try.ntmps24
  go_wp2_with (first
    | (go_at_call 44; (with_reducible refine (disk_no H0.out HS.out).mono ?_); rintro e w1 ⟨rfl, hb⟩; have B1 := Aside0.mk hb; clear hb))
  go_ret2
  exact ⟨rfl, B1.out⟩
end Go.Proofs.Ytjefgdggjchhbaa.PAll
