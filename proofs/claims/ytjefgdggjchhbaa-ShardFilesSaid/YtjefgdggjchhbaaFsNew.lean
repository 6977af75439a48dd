/- simfs.New, isName, move.do, walked by hand. No condition but the names that are given. -/
import Derived.Test.YtjefgdggjchhbaaFsFile
set_option linter.unusedVariables false
set_option linter.unusedSimpArgs false
namespace Go.Proofs.Ytjefgdggjchhbaa.PAll
open Go.RowKit Go.Proofs.YtjefgdggjchhbaaVW.PrintWords Go.Proofs.YtjefgdggjchhbaaVW.PrintLast Go.Proofs.YtjefgdggjchhbaaVW.PrintMore
attribute [local go_sem] max2_int min2_int max_two min_two
set_option maxHeartbeats 8000000
set_option maxRecDepth 100000
theorem new_bad {w : World} {room : Int} (h : room < 0 ∨ 1048576 < room) :
    Calls Try.prog 27 #[.int .i64 room] w fun e w' => e = .returned (.tuple #[.pointer none, .int .i64 2]) ∧ Below w.heap.size w w' := by
  have HB := Aside0.mk (Below.refl w.heap.size w)
  by_cases h0 : room < 0
  · clear h
    go_enter Try.func27, Try.ntmps27
    go_wp2
    go_ret2
    exact ⟨rfl, HB.out⟩
  · have h1 : 1048576 < room := by omega
    clear h
    go_enter Try.func27, Try.ntmps27
    go_wp2
    go_ret2
    exact ⟨rfl, HB.out⟩
/-- A disk without a file. -/
structure D0 (w : World) (B g : Nat) (room : Int) (mf ms mn : Nat) : Prop where
  fs : Fsb w g room 0 mf 0 ms mn (.slice none 0 0) 0
  seen : w.heap[mn]? = some (.map #[] 0)
  files : w.heap[mf]? = some (.map #[] 0)
  hg : B ≤ g
  hm : B ≤ mf
  hn : B ≤ mn
  ne : mf ≠ mn
theorem D0.below {w w' : World} {B g : Nat} {room : Int} {mf ms mn : Nat} (h : D0 w B g room mf ms mn) (hb : Below w.heap.size w w') : D0 w' B g room mf ms mn := ⟨h.fs.below hb, blk_below h.seen hb, blk_below h.files hb, h.hg, h.hm, h.hn, h.ne⟩
def Disk0 (w : World) (B g : Nat) (room : Int) : Prop := ∃ mf ms mn, D0 w B g room mf ms mn
theorem blk_new' {w : World} {o : Obj} {n : Nat} (hn : n = w.heap.size) : (w.alloc o).heap[n]? = some o := hn ▸ heap_alloc_new w o
theorem new_ok {w : World} {room : Int} (h : ¬ room < 0) (h' : ¬ 1048576 < room) :
    Calls Try.prog 27 #[.int .i64 room] w fun e w' => ∃ g, e = .returned (.tuple #[.pointer (some ⟨g, 0, none⟩), .int .i64 0]) ∧ Disk0 w' w.heap.size g room ∧ Below w.heap.size w w' := by
  have hmm := @run_makeMap Try.prog
  go_enter Try.func27, Try.ntmps27
  go_wp2
  go_ret2
  refine ⟨_, rfl, ⟨w.heap.size, w.heap.size + 1, w.heap.size + 1 + 1, blk_new' (by simp), ?_, ?_, by omega, by omega, by omega, by omega⟩, ?_⟩
  · exact blk_alloc (blk_new' (by simp)) _
  · exact blk_alloc (blk_alloc (blk_alloc (heap_alloc_new _ _) _) _) _
  · exact below_alloc (below_alloc (below_alloc (below_alloc (Below.refl _ _) _) _) _) _
theorem FsKept.mput_ {w0 w : World} (h : FsKept w0 w) {m : Nat} {es : Array MapEntry} {ck : Nat} (hb : w.heap[m]? = some (.map es ck)) (key v : Value) : FsKept w0 (mput w m key v) :=
  h.trans ⟨Nat.le_of_eq (by simp [mput]), fun k cs t hk _ => mput_far hb key v k (Ne.symm (map_ne_cells hb hk))⟩
theorem mdo_on {w : World} {mn : Nat} (hb : w.heap[mn]? = some (.map #[] 0)) :
    Calls Try.prog 74 #[.agg #[.int .i64 0, .string ⟨#[]⟩, .string nameS, .int .i64 1], .map (some mn)] w fun e w' => e = .returned (.tuple #[]) ∧ ∃ w1, Below w.heap.size w w1 ∧ w1.heap[mn]? = some (.map #[] 0) ∧ w' = mput w1 mn (.string nameS) (.int .i64 1) := by
  have b0 := Aside0.mk (heap_alloc_new w (.cells #[.int .i64 0, .string ⟨#[]⟩, .string nameS, .int .i64 1] 100))
  have c0 : (w.alloc (.cells #[.int .i64 0, .string ⟨#[]⟩, .string nameS, .int .i64 1] 100)).cell? ⟨w.heap.size, 0, none⟩ = some (.int .i64 0) := (blk_cell b0.out 0).trans rfl
  have c2 : (w.alloc (.cells #[.int .i64 0, .string ⟨#[]⟩, .string nameS, .int .i64 1] 100)).cell? ⟨w.heap.size, 2, none⟩ = some (.string nameS) := (blk_cell b0.out 2).trans rfl
  have c3 : (w.alloc (.cells #[.int .i64 0, .string ⟨#[]⟩, .string nameS, .int .i64 1] 100)).cell? ⟨w.heap.size, 3, none⟩ = some (.int .i64 1) := (blk_cell b0.out 3).trans rfl
  have H1 := Aside0.mk (blk_alloc hb (.cells #[.int .i64 0, .string ⟨#[]⟩, .string nameS, .int .i64 1] 100))
  have B1 := Aside0.mk (below_alloc (Below.refl w.heap.size w) (.cells #[.int .i64 0, .string ⟨#[]⟩, .string nameS, .int .i64 1] 100))
  go_enter Try.func74, Try.ntmps74
  go_wp2_with (at_mapUpdate; refine wp_mput rfl (.tmp 9) (.tmp 11) (.tmp 13) 43 rfl (.map (some mn)) (.string nameS) (.int .i64 1) (mput _ mn (.string nameS) (.int .i64 1)) rfl rfl rfl (put_first Try.underlying43 Try.underlying9 (by simp [MapKept.IsKey]) H1.out) ?_; generalize hw1 : w.alloc (.cells #[.int .i64 0, .string ⟨#[]⟩, .string nameS, .int .i64 1] 100) = w1 at H1 B1 c0 c2 c3 b0 ⊢; clear hw1)
  go_end0
  exact ⟨rfl, _, B1.out, H1.out, rfl⟩
end Go.Proofs.Ytjefgdggjchhbaa.PAll
