/- A disk in memory (simfs.FS): its blocks, how they are read, written and kept; its maps, that have one entry or none. No condition. -/
import Derived.Test.YtjefgdggjchhbaaVWMost
import Derived.Test.YtjefgdggjchhbaaProg
import Derived.WalkKit
import Derived.ProofKit
import Derived.WideMake
import Derived.MapKept
import Derived.Maps.OwnOps
import Derived.Laws.IdiomRangeMap
set_option linter.unusedVariables false
set_option linter.unusedSimpArgs false
namespace Go.Proofs.Ytjefgdggjchhbaa.PAll
open Go.RowKit Go.Proofs.YtjefgdggjchhbaaVW.PrintWords Go.Proofs.YtjefgdggjchhbaaVW.PrintLast Go.Proofs.YtjefgdggjchhbaaVW.PrintMore
/-- The block of a disk: no fuse, alive. -/
def Fsb (w : World) (g : Nat) (room used : Int) (mf : Nat) (next : Int) (ms mn : Nat) (rowf : Value) (acts : Int) : Prop :=
  w.heap[g]? = some (.cells #[.bool true, .int .i64 room, .int .i64 used, .map (some mf), .int .i64 next, .map (some ms), .map (some mn), rowf, .int .i64 acts, .int .i64 0, .bool false] 46 (0, 0))
/-- The block of a file. -/
def Fileb (w : World) (x : Nat) (sure now row : Value) : Prop := w.heap[x]? = some (.cells #[sure, now, row] 87 (0, 0))
section
variable {w w' : World} {g : Nat} {room used : Int} {mf : Nat} {next : Int} {ms mn : Nat} {rowf : Value} {acts : Int}
theorem Fsb.c0 (H : Fsb w g room used mf next ms mn rowf acts) : w.cell? ⟨g, 0, none⟩ = some (.bool true) := (blk_cell H 0).trans rfl
theorem Fsb.c1 (H : Fsb w g room used mf next ms mn rowf acts) : w.cell? ⟨g, 1, none⟩ = some (.int .i64 room) := (blk_cell H 1).trans rfl
theorem Fsb.c2 (H : Fsb w g room used mf next ms mn rowf acts) : w.cell? ⟨g, 2, none⟩ = some (.int .i64 used) := (blk_cell H 2).trans rfl
theorem Fsb.c3 (H : Fsb w g room used mf next ms mn rowf acts) : w.cell? ⟨g, 3, none⟩ = some (.map (some mf)) := (blk_cell H 3).trans rfl
theorem Fsb.c4 (H : Fsb w g room used mf next ms mn rowf acts) : w.cell? ⟨g, 4, none⟩ = some (.int .i64 next) := (blk_cell H 4).trans rfl
theorem Fsb.c6 (H : Fsb w g room used mf next ms mn rowf acts) : w.cell? ⟨g, 6, none⟩ = some (.map (some mn)) := (blk_cell H 6).trans rfl
theorem Fsb.c7 (H : Fsb w g room used mf next ms mn rowf acts) : w.cell? ⟨g, 7, none⟩ = some rowf := (blk_cell H 7).trans rfl
theorem Fsb.c8 (H : Fsb w g room used mf next ms mn rowf acts) : w.cell? ⟨g, 8, none⟩ = some (.int .i64 acts) := (blk_cell H 8).trans rfl
theorem Fsb.c9 (H : Fsb w g room used mf next ms mn rowf acts) : w.cell? ⟨g, 9, none⟩ = some (.int .i64 0) := (blk_cell H 9).trans rfl
theorem Fsb.c10 (H : Fsb w g room used mf next ms mn rowf acts) : w.cell? ⟨g, 10, none⟩ = some (.bool false) := (blk_cell H 10).trans rfl
theorem Fsb.fr (H : Fsb w g room used mf next ms mn rowf acts) (i : Nat) : w.frozen? ⟨g, i, none⟩ = false := blk_frozen H i
theorem Fsb.below (H : Fsb w g room used mf next ms mn rowf acts) (hb : Below w.heap.size w w') : Fsb w' g room used mf next ms mn rowf acts := blk_below H hb
theorem Fsb.alloc (H : Fsb w g room used mf next ms mn rowf acts) (o : Obj) : Fsb (w.alloc o) g room used mf next ms mn rowf acts := blk_alloc H o
theorem Fsb.put2 (H : Fsb w g room used mf next ms mn rowf acts) (u : Int) : Fsb (w.setCell ⟨g, 2, none⟩ (.int .i64 u)) g room u mf next ms mn rowf acts := blk_put H 2 _ rfl
theorem Fsb.put4 (H : Fsb w g room used mf next ms mn rowf acts) (u : Int) : Fsb (w.setCell ⟨g, 4, none⟩ (.int .i64 u)) g room used mf u ms mn rowf acts := blk_put H 4 _ rfl
theorem Fsb.put7 (H : Fsb w g room used mf next ms mn rowf acts) (u : Value) : Fsb (w.setCell ⟨g, 7, none⟩ u) g room used mf next ms mn u acts := blk_put H 7 _ rfl
theorem Fsb.put8 (H : Fsb w g room used mf next ms mn rowf acts) (u : Int) : Fsb (w.setCell ⟨g, 8, none⟩ (.int .i64 u)) g room used mf next ms mn rowf u := blk_put H 8 _ rfl
end
section
variable {w w' : World} {x : Nat} {sure now row : Value}
theorem Fileb.c0 (H : Fileb w x sure now row) : w.cell? ⟨x, 0, none⟩ = some sure := (blk_cell H 0).trans rfl
theorem Fileb.c1 (H : Fileb w x sure now row) : w.cell? ⟨x, 1, none⟩ = some now := (blk_cell H 1).trans rfl
theorem Fileb.c2 (H : Fileb w x sure now row) : w.cell? ⟨x, 2, none⟩ = some row := (blk_cell H 2).trans rfl
theorem Fileb.fr (H : Fileb w x sure now row) (i : Nat) : w.frozen? ⟨x, i, none⟩ = false := blk_frozen H i
theorem Fileb.below (H : Fileb w x sure now row) (hb : Below w.heap.size w w') : Fileb w' x sure now row := blk_below H hb
theorem Fileb.alloc (H : Fileb w x sure now row) (o : Obj) : Fileb (w.alloc o) x sure now row := blk_alloc H o
theorem Fileb.put0 (H : Fileb w x sure now row) (u : Value) : Fileb (w.setCell ⟨x, 0, none⟩ u) x u now row := blk_put H 0 _ rfl
theorem Fileb.put1 (H : Fileb w x sure now row) (u : Value) : Fileb (w.setCell ⟨x, 1, none⟩ u) x sure u row := blk_put H 1 _ rfl
theorem Fileb.put2 (H : Fileb w x sure now row) (u : Value) : Fileb (w.setCell ⟨x, 2, none⟩ u) x sure now u := blk_put H 2 _ rfl
end
/-! ### maps -/
theorem look_hit {P : Program} {w : World} {m i ck t k e : Nat} {es : Array MapEntry} {d : TypeDesc} {key v : Value} (ht : P.underlying t = some (.map k e)) (hk : P.underlying k = some d) (hd : MapKept.IsKey d key) (hb : w.heap[m]? = some (.map es ck))
    (hf : Instr.findNow d key es.toList 0 = some (some (i, v))) (c : Bool) : (Instr.lookup t (.map (some m)) key c).run P w = .ok (if c then .tuple #[v, .bool true] else v) w := by
  have hc := MapKept.run_checkKey (P := P) (w := w) hk hd es.isEmpty 9999
  cases c <;> simp [Instr.lookup, run_underlying ht, MapKept.run_getObj_map hb, hc, MapKept.run_findKey hk hf, Result.andThen]
theorem look_miss {P : Program} {w : World} {m ck t k e : Nat} {es : Array MapEntry} {d : TypeDesc} {key z : Value} (ht : P.underlying t = some (.map k e)) (hk : P.underlying k = some d) (hd : MapKept.IsKey d key) (hb : w.heap[m]? = some (.map es ck))
    (hf : Instr.findNow d key es.toList 0 = some none) (hz : (zeroValue e).run P w = .ok z w) (c : Bool) : (Instr.lookup t (.map (some m)) key c).run P w = .ok (if c then .tuple #[z, .bool false] else z) w := by
  have hc := MapKept.run_checkKey (P := P) (w := w) hk hd es.isEmpty 9999
  cases c <;> simp [Instr.lookup, run_underlying ht, MapKept.run_getObj_map hb, hc, MapKept.run_findKey hk hf, hz, Result.andThen]
/-- The first entry of a map. -/
theorem put_first {P : Program} {w : World} {m t k e : Nat} {d : TypeDesc} {key v : Value} (ht : P.underlying t = some (.map k e)) (hk : P.underlying k = some d) (hd : MapKept.IsKey d key) (hb : w.heap[m]? = some (.map #[] 0)) :
    (Instr.mapUpdate t (.map (some m)) key v).run P w = .ok () { w with heap := w.heap.setIfInBounds m (.map #[{ key := key, val := v, born := 0 }] 1) } := by
  have hf : Instr.findNow d key ([] : List MapEntry) 0 = some none := rfl
  have hc := MapKept.run_checkKey (P := P) (w := w) hk hd false 9999
  simp [Instr.mapUpdate, run_underlying ht, MapKept.run_getObj_map hb, hc, MapKept.run_findKey hk hf, MapKept.run_setObj_map _ hb, Result.andThen]
def mput (w : World) (m : Nat) (key v : Value) : World := { w with heap := w.heap.setIfInBounds m (.map #[{ key := key, val := v, born := 0 }] 1) }
theorem mput_at {w : World} {m : Nat} {o : Obj} (hb : w.heap[m]? = some o) (key v : Value) : (mput w m key v).heap[m]? = some (.map #[{ key := key, val := v, born := 0 }] 1) := (MapKept.heap_set hb).1
theorem mput_far {w : World} {m : Nat} {o : Obj} (hb : w.heap[m]? = some o) (key v : Value) (j : Nat) (hj : j ≠ m) : (mput w m key v).heap[j]? = w.heap[j]? := (MapKept.heap_set hb).2 j hj
theorem mput_below {w w0 : World} {B m : Nat} (h : Below B w0 w) (hm : B ≤ m) (key v : Value) : Below B w0 (mput w m key v) :=
  ⟨h.os, h.tape, h.output, by simpa [mput] using h.size, fun k hk => by
    have : k ≠ m := by omega
    rw [← h.block k hk]
    simp [mput, Ne.symm this]⟩
/-- A look-up at the operation. -/
theorem wp_look {P : Program} {w : World} {ops : Array Oper} {rest : List Oper} {o : Oper} {a : Act} {Q : Exit → Act → World → Prop} (hg : o.guard = none) (m x : Operand) (t : TypeId) (c : Bool) (hop : o.op = Op.lookup t m x c) (mv key v : Value) (hm : a.eval m = mv) (hx : a.eval x = key)
    (hrun : (Instr.lookup t mv key c).run P w = .ok v w) (hK : wpList P ops Q rest (a.put o.dst v) w) : wpList P ops Q (o :: rest) a w := by
  refine wpList_plain hg fun K' hK' => ?_
  unfold Oper.wp
  simp [execOp, hop, hm, hx, hrun, Result.andThen]
  exact hK' _ _ hK
/-- A store into a map at the operation. -/
theorem wp_mput {P : Program} {w : World} {ops : Array Oper} {rest : List Oper} {o : Oper} {a : Act} {Q : Exit → Act → World → Prop} (hg : o.guard = none) (m x v : Operand) (t : TypeId) (hop : o.op = Op.mapUpdate t m x v) (mv key val : Value) (w1 : World) (hm : a.eval m = mv) (hx : a.eval x = key) (hv : a.eval v = val)
    (hrun : (Instr.mapUpdate t mv key val).run P w = .ok () w1) (hK : wpList P ops Q rest (a.put o.dst undef) w1) : wpList P ops Q (o :: rest) a w := by
  refine wpList_plain hg fun K' hK' => ?_
  unfold Oper.wp
  simp [execOp, hop, hm, hx, hv, hrun, Result.andThen]
  exact hK' _ _ hK
/-- The one name of a directory, and the one file. -/
abbrev nameS : ByteArray := ⟨#[115]⟩
def seenOne : Array MapEntry := #[{ key := .string nameS, val := .int .i64 1, born := 0 }]
def fileOne (x : Nat) : Array MapEntry := #[{ key := .int .i64 1, val := .pointer (some ⟨x, 0, none⟩), born := 0 }]
theorem seen_hit {w : World} {mn : Nat} (hb : w.heap[mn]? = some (.map seenOne 1)) : (Instr.lookup 43 (.map (some mn)) (.string nameS) true).run Try.prog w = .ok (.tuple #[.int .i64 1, .bool true]) w :=
  look_hit (i := 0) Try.underlying43 Try.underlying9 (by simp [MapKept.IsKey]) hb (by simp [seenOne, Instr.findNow, Instr.sameNow, (MapKept.bytes_beq nameS nameS).2 rfl]) true
theorem seen_miss {w : World} {mn : Nat} {s : ByteArray} (hb : w.heap[mn]? = some (.map seenOne 1)) (hs : (s == nameS) = false) : (Instr.lookup 43 (.map (some mn)) (.string s) true).run Try.prog w = .ok (.tuple #[.int .i64 0, .bool false]) w :=
  look_miss Try.underlying43 Try.underlying9 (by simp [MapKept.IsKey]) hb (by simp [seenOne, Instr.findNow, Instr.sameNow, hs]) (by kernel_rfl) true
theorem seen_none {w : World} {mn : Nat} {s : ByteArray} (hb : w.heap[mn]? = some (.map #[] 0)) : (Instr.lookup 43 (.map (some mn)) (.string s) true).run Try.prog w = .ok (.tuple #[.int .i64 0, .bool false]) w :=
  look_miss Try.underlying43 Try.underlying9 (by simp [MapKept.IsKey]) hb rfl (by kernel_rfl) true
theorem file_hit {w : World} {mf x : Nat} (hb : w.heap[mf]? = some (.map (fileOne x) 1)) : (Instr.lookup 42 (.map (some mf)) (.int .i64 1) false).run Try.prog w = .ok (.pointer (some ⟨x, 0, none⟩)) w :=
  look_hit (i := 0) Try.underlying42 Try.underlying3 (by simp [MapKept.IsKey]) hb (by simp [fileOne, Instr.findNow, Instr.sameNow]) false
end Go.Proofs.Ytjefgdggjchhbaa.PAll
