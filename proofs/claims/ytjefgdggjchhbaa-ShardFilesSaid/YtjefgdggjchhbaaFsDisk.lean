/- A disk in memory: what of memory an act of it leaves as it was; a disk with one file. No condition. -/
import Derived.Test.YtjefgdggjchhbaaFsKit
set_option linter.unusedVariables false
set_option linter.unusedSimpArgs false
namespace Go.Proofs.Ytjefgdggjchhbaa.PAll
open Go.RowKit Go.Proofs.YtjefgdggjchhbaaVW.PrintWords Go.Proofs.YtjefgdggjchhbaaVW.PrintLast Go.Proofs.YtjefgdggjchhbaaVW.PrintMore
/-- A name that the directory does not have. -/
def NoName (w : World) (mn : Nat) (s : ByteArray) : Prop := w.heap[mn]? = some (.map #[] 0) ∨ (w.heap[mn]? = some (.map seenOne 1) ∧ (s == nameS) = false)
theorem NoName.below {w w' : World} {mn : Nat} {s : ByteArray} (h : NoName w mn s) (hb : Below w.heap.size w w') : NoName w' mn s := h.imp (fun h => blk_below h hb) (fun h => ⟨blk_below h.1 hb, h.2⟩)
theorem NoName.look {w : World} {mn : Nat} {s : ByteArray} (h : NoName w mn s) : (Instr.lookup 43 (.map (some mn)) (.string s) true).run Try.prog w = .ok (.tuple #[.int .i64 0, .bool false]) w :=
  h.elim seen_none (fun h => seen_miss h.1 h.2)
/-- The types of the blocks that an act of a disk writes. -/
def FsT (t : Nat) : Prop := t = 46 ∨ t = 87 ∨ t = 95
/-- All other blocks stay. -/
def FsKept (w w' : World) : Prop := w.heap.size ≤ w'.heap.size ∧ ∀ (k : Nat) (cs : Array Value) (t : TypeId), w.heap[k]? = some (Obj.cells cs t (0, 0)) → ¬ FsT t → w'.heap[k]? = w.heap[k]?
theorem FsKept.refl (w : World) : FsKept w w := ⟨Nat.le_refl _, fun _ _ _ _ _ => rfl⟩
theorem FsKept.trans {a b c : World} (h : FsKept a b) (h' : FsKept b c) : FsKept a c :=
  ⟨Nat.le_trans h.1 h'.1, fun k cs t hk ht => (h'.2 k cs t ((h.2 k cs t hk ht).trans hk) ht).trans (h.2 k cs t hk ht)⟩
theorem FsKept.below {w w' : World} (h : Below w.heap.size w w') : FsKept w w' := ⟨h.size, fun k _ _ hk _ => h.block k (blk_lt hk)⟩
theorem FsKept.alloc {w0 w : World} (h : FsKept w0 w) (o : Obj) : FsKept w0 (w.alloc o) := h.trans (.below (below_alloc (Below.refl _ _) o))
theorem FsKept.drew {w0 w : World} (h : FsKept w0 w) : FsKept w0 w.drew := h.trans (.below (below_drew1 (Below.refl _ _)))
theorem FsKept.set {w0 w : World} (h : FsKept w0 w) {g t : Nat} {cs : Array Value} (hg : w.heap[g]? = some (.cells cs t (0, 0))) (ht : FsT t) (i : Nat) (u : Value) : FsKept w0 (w.setCell ⟨g, i, none⟩ u) := by
  refine h.trans ⟨Nat.le_of_eq (by simp), fun k cs' t' hk ht' => Below.heap_setCell w ⟨g, i, none⟩ u k ?_⟩
  rintro rfl
  rw [hg] at hk
  injection hk with hk
  injection hk with _ hk
  subst hk
  exact ht' ht
theorem FsKept.grown {w0 w w' : World} (h : FsKept w0 w) {row : Option Nat} (hg : w.grownBy w' row) (hr : ∀ k, row = some k → ∃ (cs : Array Value) (t : TypeId), w.heap[k]? = some (Obj.cells cs t (0, 0)) ∧ FsT t) : FsKept w0 w' := by
  refine h.trans ⟨hg.size, fun k cs t hk ht => hg.block k (blk_lt hk) ?_⟩
  intro e
  obtain ⟨cs', t', hk', ht'⟩ := hr k e.symm
  rw [hk] at hk'
  injection hk' with hk'
  injection hk' with _ hk'
  subst hk'
  exact ht ht'
theorem R_fs {α : Type} {d : Kd α} {e : Nat} {w w' : World} {base : Nat} {ok : Nat → Prop} {v : Value} {xs : List α} (h : d.R e w base ok v xs) (hk : FsKept w w') (ht : ∀ q, q ∈ e :: d.E → ¬ FsT q) : d.R e w' base ok v xs :=
  Kd.R_mono (Kd.R_move (Kd.R_bound h) (fun k hb => by
    obtain ⟨_, _, _, q, hq, cells, hc⟩ := hb
    exact hk.2 k cells q hc (ht q hq))) (fun _ hk => hk.1)
theorem u8_fs : ∀ q, q ∈ 5 :: (Kd.int .u8).E → ¬ FsT q := by
  intro q hq
  have : q = 5 := by simpa [Kd.int, Kd.scalar] using hq
  subst this
  unfold FsT
  omega
theorem blk_fs {w w' : World} {k t : Nat} {cs : Array Value} (h : w.heap[k]? = some (.cells cs t (0, 0))) (hk : FsKept w w') (ht : ¬ FsT t) : w'.heap[k]? = some (.cells cs t (0, 0)) := (hk.2 k cs t h ht).trans h
/-- A row of elements of n cells, whatever they are. -/
def raw (n : Nat) : Kd (List Value) where
  sz := n
  E := []
  K := fun _ x cs => cs = x ∧ x.length = n ∧ ∀ u ∈ x, u.oneCell' = true
  M := fun _ _ _ x cs => cs = x ∧ x.length = n ∧ ∀ u ∈ x, u.oneCell' = true
  K_len := fun h => by rw [h.1]; exact h.2.1
  K_one := fun h u hu => h.2.2 u (h.1 ▸ hu)
  K_below := fun _ h => h
  K_of_M := fun h => h
  M_mono := fun _ h => h
  M_bound := fun h => h
  M_move := fun _ h => h
  M_lower := fun _ h => h
/-- A disk with the one file: its letters. -/
structure Dk (w : World) (B g : Nat) (room used : Int) (F : List Int) (m mf ms mn x : Nat) (rowf : Value) (acts : Int) (sure now row : Value) (rows : List (List Value)) : Prop where
  fs : Fsb w g room used mf 1 ms mn rowf acts
  seen : w.heap[mn]? = some (.map seenOne 1)
  files : w.heap[mf]? = some (.map (fileOne x) 1)
  fl : Fileb w x sure now row
  own : Kd.R (Kd.int .u8) 5 w B (fun _ => True) now F
  rws : Kd.R (raw 3) 95 w B (fun _ => True) row rows
  len : rows.length ≤ m
  hg : B ≤ g
  hx : B ≤ x
/-- A disk with the one file, of at most m changes that are not sure. -/
def Disk (w : World) (B g : Nat) (room : Int) (F : List Int) (m : Nat) : Prop := ∃ mf ms mn x rowf acts sure now row rows, Dk w B g room F.length F m mf ms mn x rowf acts sure now row rows
theorem map_ne_cells {w : World} {a b : Nat} {es : Array MapEntry} {ck : Nat} {cs : Array Value} {t : TypeId} (h : w.heap[a]? = some (.map es ck)) (h' : w.heap[b]? = some (.cells cs t (0, 0))) : a ≠ b := by
  rintro rfl
  rw [h] at h'
  cases h'
theorem raw_ne {t : Nat} (ht : 95 ≠ t) : ∀ q, q ∈ 95 :: (raw 3).E → q ≠ t := by
  intro q hq
  have : q = 95 := by simpa [raw] using hq
  omega
theorem u8_ne {t : Nat} (ht : 5 ≠ t) : ∀ q, q ∈ 5 :: (Kd.int .u8).E → q ≠ t := by
  intro q hq
  have : q = 5 := by simpa [Kd.int, Kd.scalar] using hq
  omega
/-- One block alone has turned. -/
def Touch (w w' : World) (g : Nat) : Prop := KeepBut w w' g none ∧ Below g w w'
theorem Touch.refl (w : World) (g : Nat) : Touch w w g := ⟨KeepBut.refl _ _ _, Below.refl _ _⟩
theorem Touch.set {w w1 : World} {g : Nat} (h : Touch w w1 g) (j : Nat) (u : Value) : Touch w (w1.setCell ⟨g, j, none⟩ u) g := ⟨h.1.set_ j u, h.2.setCell (p := ⟨g, j, none⟩) (Nat.le_refl _) u⟩
theorem Touch.below {w w1 w2 : World} {g : Nat} (h : Touch w w1 g) (hg : g < w1.heap.size) (hb : Below w1.heap.size w1 w2) : Touch w w2 g := ⟨h.1.trans (KeepBut.of_below hb g none) (.inl rfl), h.2.trans (hb.mono (Nat.le_of_lt hg))⟩
theorem Touch.then_ {w w1 w2 : World} {g : Nat} (h : Touch w w1 g) (h' : Touch w1 w2 g) : Touch w w2 g := ⟨h.1.trans h'.1 (.inl rfl), h.2.trans h'.2⟩
theorem Touch.drew {w w1 : World} {g : Nat} (h : Touch w w1 g) : Touch w w1.drew g := ⟨h.1, h.2.drew⟩
theorem Touch.past {w w1 w2 : World} {g r : Nat} (h : Touch w w1 g) (hr : w.heap.size ≤ r) (hg : g < r) (h' : Touch w1 w2 r) : Touch w w2 g :=
  ⟨⟨Nat.le_trans h.1.1 h'.1.1, fun k hk hn _ => (h'.1.2 k (Nat.lt_of_lt_of_le hk h.1.1) (by omega) (by simp)).trans (h.1.2 k hk hn (by simp))⟩, h.2.trans (h'.2.mono (Nat.le_of_lt hg))⟩
theorem Touch.fs {w w1 : World} {g : Nat} (h : Touch w w1 g) {cs : Array Value} {t : TypeId} (hg : w.heap[g]? = some (.cells cs t (0, 0))) (ht : FsT t) : FsKept w w1 := by
  refine ⟨h.1.1, fun k cs' t' hk ht' => h.1.2 k (blk_lt hk) ?_ (by simp)⟩
  rintro rfl
  rw [hg] at hk
  injection hk with hk
  injection hk with _ hk
  subst hk
  exact ht' ht
theorem Touch.blk {w w1 : World} {g k : Nat} {o : Obj} (h : Touch w w1 g) (hk : w.heap[k]? = some o) (hne : k ≠ g) : w1.heap[k]? = some o := h.1.blk hk hne (by simp)
section
variable {w w' : World} {B g : Nat} {room used : Int} {F G : List Int} {m mf ms mn x : Nat} {rowf : Value} {acts : Int} {sure now row : Value} {rows : List (List Value)}
theorem Dk.below (h : Dk w B g room used F m mf ms mn x rowf acts sure now row rows) (hb : Below w.heap.size w w') : Dk w' B g room used F m mf ms mn x rowf acts sure now row rows :=
  ⟨h.fs.below hb, blk_below h.seen hb, blk_below h.files hb, h.fl.below hb, Kd.R_below h.own hb, Kd.R_below h.rws hb, h.len, h.hg, h.hx⟩
theorem Dk.drew (h : Dk w B g room used F m mf ms mn x rowf acts sure now row rows) : Dk w.drew B g room used F m mf ms mn x rowf acts sure now row rows := h.below (below_drew1 (Below.refl _ _))
theorem Dk.gx (h : Dk w B g room used F m mf ms mn x rowf acts sure now row rows) : g ≠ x := blk_ne h.fs h.fl (by decide)
theorem Dk.to (h : Dk w B g room F.length F m mf ms mn x rowf acts sure now row rows) : Disk w B g room F m := ⟨_, _, _, _, _, _, _, _, _, _, h⟩
theorem Dk.ofx (h : Dk w B g room used F m mf ms mn x rowf acts sure now row rows) {sure' now' row' : Value} (ht : Touch w w' x) (hf : Fileb w' x sure' now' row') (hn : Kd.R (Kd.int .u8) 5 w' B (fun _ => True) now' G) {rows' : List (List Value)} (hr : Kd.R (raw 3) 95 w' B (fun _ => True) row' rows') {m' : Nat} (hl : rows'.length ≤ m') :
    Dk w' B g room used G m' mf ms mn x rowf acts sure' now' row' rows' :=
  ⟨ht.blk h.fs h.gx, ht.blk h.seen (map_ne_cells h.seen h.fl), ht.blk h.files (map_ne_cells h.files h.fl), hf, hn, hr, hl, h.hg, h.hx⟩
theorem Dk.now_ (h : Dk w B g room used F m mf ms mn x rowf acts sure now row rows) {v : Value} (hv : Kd.R (Kd.int .u8) 5 w B (fun _ => True) v G) : Dk (w.setCell ⟨x, 1, none⟩ v) B g room used G m mf ms mn x rowf acts sure v row rows :=
  h.ofx ((Touch.refl w x).set 1 v) (h.fl.put1 v) (Kd.R_set hv h.fl (u8_ne (by decide)) 1 v) (Kd.R_set h.rws h.fl (raw_ne (by decide)) 1 v) h.len
theorem Dk.grown (h : Dk w B g room used F m mf ms mn x rowf acts sure now row rows) (hg : w.grownBy w' row.ownBlock) {v : Value} {rows' : List (List Value)} (hr : Kd.R (raw 3) 95 w' B (fun _ => True) v rows') {m' : Nat} (hl : rows'.length ≤ m') :
    Dk (w'.setCell ⟨x, 2, none⟩ v) B g room used F m' mf ms mn x rowf acts sure now v rows' := by
  have hn := Kd.R_typed h.rws
  have e1 : ∀ {k : Nat} {cs : Array Value} {t : TypeId}, w.heap[k]? = some (.cells cs t (0, 0)) → 95 ≠ t → w'.heap[k]? = some (.cells cs t (0, 0)) := fun hk ht => blk_grown hk hg (Kd.R_ne h.rws hk ht)
  have e2 : ∀ {k : Nat} {es : Array MapEntry} {ck : Nat}, w.heap[k]? = some (.map es ck) → w'.heap[k]? = some (.map es ck) := fun {k _ _} hk => blk_grown hk hg (fun he => by
    obtain ⟨cells, hc⟩ := hn k he.symm
    rw [hk] at hc
    cases hc)
  have hfl : Fileb w' x sure now row := e1 h.fl (by decide)
  have ht := (Touch.refl w' x).set 2 v
  exact ⟨ht.blk (e1 h.fs (by decide)) h.gx, ht.blk (e2 h.seen) (map_ne_cells h.seen h.fl), ht.blk (e2 h.files) (map_ne_cells h.files h.fl), hfl.put2 v,
    Kd.R_set (Kd.R_over' h.own hn (u8_ne (by decide)) hg) hfl (u8_ne (by decide)) 2 v, Kd.R_set hr hfl (raw_ne (by decide)) 2 v, hl, h.hg, h.hx⟩
theorem Dk.disk (h : Dk w B g room used F m mf ms mn x rowf acts sure now row rows) {used' acts' : Int} (ht : Touch w w' g) (hf : Fsb w' g room used' mf 1 ms mn rowf acts') : Dk w' B g room used' F m mf ms mn x rowf acts' sure now row rows :=
  ⟨hf, ht.blk h.seen (map_ne_cells h.seen h.fs), ht.blk h.files (map_ne_cells h.files h.fs), ht.blk h.fl (Ne.symm h.gx), Kd.R_keep (Kd.R_types h.own h.fs (u8_ne (by decide))) ht.1 (fun _ hk => hk.2) |> fun h => Kd.R_mono h (fun _ _ => trivial),
    Kd.R_keep (Kd.R_types h.rws h.fs (raw_ne (by decide))) ht.1 (fun _ hk => hk.2) |> fun h => Kd.R_mono h (fun _ _ => trivial), h.len, h.hg, h.hx⟩
theorem Dk.nilgrown (h : Dk w B g room used F m mf ms mn x rowf acts sure now row rows) (hg : w.grownBy w' (Value.slice none 0 0).ownBlock) : Dk w' B g room used F m mf ms mn x rowf acts sure now row rows :=
  h.below ⟨hg.os, hg.tape, hg.output, hg.size, fun k hk => hg.block k hk (by simp [Value.ownBlock])⟩
theorem Disk.below (h : Disk w B g room F m) (hb : Below w.heap.size w w') : Disk w' B g room F m := by
  obtain ⟨mf, ms, mn, x, rowf, acts, sure, now, row, rows, h⟩ := h
  exact (h.below hb).to
theorem Disk.mono (h : Disk w B g room F m) {m' : Nat} (hm : m ≤ m') : Disk w B g room F m' := by
  obtain ⟨mf, ms, mn, x, rowf, acts, sure, now, row, rows, h⟩ := h
  exact Dk.to ⟨h.fs, h.seen, h.files, h.fl, h.own, h.rws, Nat.le_trans h.len hm, h.hg, h.hx⟩
end
end Go.Proofs.Ytjefgdggjchhbaa.PAll
