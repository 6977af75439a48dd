/- A row of acts, opened. No condition. -/
import Derived.Test.YtjefgdggjchhbaaRows
import Derived.Test.YtjefgdggjchhbaaFilesWalk
import Derived.WalkKit
import Derived.ProofKit
import Derived.OpenShut
import Derived.Deep.SlicePairs
import Derived.Test.YtjefgdggjchhbaaVWMost
namespace Go.Proofs.Ytjefgdggjchhbaa.Open
open Go.ChangeShapes Go.WideShapes Go.ChangeAt Go.RowKit
open Go.Proofs.YtjefgdggjchhbaaVW.PrintWords Go.Proofs.YtjefgdggjchhbaaVW.PrintLast Go.Proofs.Ytjefgdggjchhbaa.PAll
open Go.Deep
set_option linter.unusedVariables false
set_option linter.unusedSimpArgs false
theorem cells59 : Try.prog.cellsOf 59 = 4 := by kernel_rfl
theorem cells3 : Try.prog.cellsOf 3 = 1 := by kernel_rfl
theorem cells4 : Try.prog.cellsOf 4 = 1 := by kernel_rfl
theorem cells22 : Try.prog.cellsOf 22 = 1 := by kernel_rfl
/-- An act, as it is read: its cells. -/
def IsAct (w : World) (cs : List Value) (x : Int × Int × Bool × List Int) : Prop :=
  ∃ (Ad : Option Addr) (cd : Nat), cs = [.int .i64 x.1, .int .i64 x.2.1, .bool x.2.2.1, .slice Ad x.2.2.2.length cd] ∧ x.2.2.2.length ≤ cd ∧ Kd.C (Kd.int .u8) w Ad x.2.2.2.length x.2.2.2 ∧ Leb.Bytes x.2.2.2
theorem list4 {α : Type} (l : List α) (h : l.length = 4) : ∃ a b c d, l = [a, b, c, d] := by
  match l, h with
  | [a, b, c, d], _ => exact ⟨a, b, c, d, rfl⟩
theorem act_open {H : Type} {enc : TypeId × Value → H} {w : World} {base fuel : Nat} {held : Bool} {cs : List Value} {x : DataW H × List MemPlace} (h : DataW.trod enc Try.prog w base (fun _ => true) held fuel 59 cs = some x) : ∃ y, IsAct w cs y := by
  obtain ⟨xs, n, _, hx, hl, hlen, hg⟩ := DataW.trod_struct Try.underlying59 h
  rw [cells59] at hl
  obtain ⟨v0, v1, v2, v3, rfl⟩ := list4 cs hl
  obtain ⟨y0, y1, y2, y3, rfl⟩ := list4 xs hlen
  have g0 := hg 0 _ rfl
  have g1 := hg 1 _ rfl
  have g2 := hg 2 _ rfl
  have g3 := hg 3 _ rfl
  simp [cells3, cells4, cells22] at g0 g1 g2 g3
  obtain ⟨x0, e0, _, _⟩ := DataW.trod_int Try.underlying3 g0
  obtain ⟨x1, e1, _, _⟩ := DataW.trod_int Try.underlying3 g1
  obtain ⟨x2, e2, _⟩ := DataW.trod_bool Try.underlying4 g2
  obtain rfl : v0 = .int .i64 x0 := by simpa using e0
  obtain rfl : v1 = .int .i64 x1 := by simpa using e1
  obtain rfl : v2 = .bool x2 := by simpa using e2
  rcases open_ints Try.underlying22 Try.underlying5 (by kernel_rfl) g3 with ⟨hcs, _⟩ | ⟨a, l, c, zs, hcs, _, hle, hm, hz, _, hcell, hwz⟩
  · obtain rfl : v3 = .slice none 0 0 := by simpa using hcs
    exact ⟨(x0, x1, x2, []), none, 0, rfl, Nat.le_refl _, (Kd.R_reads' (Kd.R_nil (Kd.int .u8) 5 w 0 (fun _ => True))).2.2, fun y hy => by cases hy⟩
  · obtain rfl : v3 = .slice (some a) l c := by simpa using hcs
    obtain ⟨l1, rfl, hr1, hm1, hw1, hc1⟩ := ReadsInt.ofRowC (.inr ⟨a, rfl, hle, hm, by simpa using hz, hcell, hwz⟩)
    exact ⟨(x0, x1, x2, l1), some a, c, rfl, hc1, Kd.C_of_reads (d := (0 : Int)) (h1 := fun _ => rfl) hr1, Leb.Bytes.of_wf hw1⟩
/-- A row of acts, as it is read. -/
def IsActs (w : World) (a : Option Addr) (cap : Nat) (l : List (Int × Int × Bool × List Int)) : Prop := acts.C w a l.length l ∧ l.length ≤ cap ∧ ∀ x ∈ l, Leb.Bytes x.2.2.2
theorem opened {H : Type} {enc : TypeId × Value → H} {w : World} {held : Bool} {a0 : Option Addr} {len0 cap0 : Nat} {d : DataW H} {ps : List MemPlace}
    (h : DataW.Trod enc Try.prog w 0 (fun _ => true) held 53 (.slice a0 len0 cap0) d ps) : ∃ l, len0 = l.length ∧ IsActs w a0 cap0 l := by
  obtain ⟨fuel, hf⟩ := h
  rcases open_slice Try.underlying53 hf with ⟨hcs, _⟩ | ⟨a, len, cap, m, n, D, Pl, hcs, _, hl, hm, hmm, _, hx⟩
  · simp [Value.cells] at hcs
    obtain ⟨rfl, rfl, rfl⟩ := hcs
    exact ⟨[], rfl, ⟨rfl, by decide, fun h => absurd h (by decide)⟩, Nat.le_refl _, fun p hp => by simp at hp⟩
  · simp [Value.cells] at hcs
    obtain ⟨rfl, rfl, rfl⟩ := hcs
    have hlm : len0 ≤ m := by rw [hmm]; split <;> omega
    have each : ∀ i, i < len0 → ∃ y : (Int × Int × Bool × List Int) × List Value, IsAct w y.2 y.1 ∧ ∀ j u, y.2[j]? = some u → w.cell? (a.add (i * 4 + j)) = some u := by
      intro i hi
      obtain ⟨cs', h1, h2⟩ := hx i (by omega)
      rw [cells59] at h1
      obtain ⟨_, hlen, hcell⟩ := World.cells?_some h1
      obtain ⟨y, hy⟩ := act_open h2
      refine ⟨(y, cs'), hy, fun j u hj => ?_⟩
      have hj4 : j < 4 := by
        have h1 : j < cs'.length := (List.getElem?_eq_some_iff.1 hj).1
        omega
      have := hcell j (by omega)
      rw [Addr.add_add] at this
      rw [this]
      exact hj
    obtain ⟨q, hq⟩ := choose_lt each
    have hlen : ((List.range len0).map (fun i => (q i).1)).length = len0 := by simp
    refine ⟨(List.range len0).map (fun i => (q i).1), hlen.symm, ⟨rfl, by rw [hlen]; unfold maxLen at hm; omega, fun hn => ⟨a, rfl, fun j p hj => ?_⟩⟩, by rw [hlen]; exact hl, fun p hp => ?_⟩
    · rw [List.getElem?_map] at hj
      obtain ⟨j', hj', rfl⟩ := Option.map_eq_some_iff.1 hj
      have hjl : j < len0 := by
        have := (List.getElem?_eq_some_iff.1 hj').1
        simpa using this
      have hjj : j' = j := by
        rw [List.getElem?_range hjl] at hj'
        exact (Option.some.inj hj').symm
      subst hjj
      obtain ⟨⟨Ad, cd, hcs, hle, hr, _⟩, hc⟩ := hq j' hjl
      exact ⟨(q j').2, by rw [hcs]; rfl, ⟨[.int .i64 (q j').1.1], _, hcs, rfl, [.int .i64 (q j').1.2.1], _, rfl, rfl, [.bool (q j').1.2.2.1], _, rfl, rfl, Ad, cd, rfl, hle, hr⟩, hc⟩
    · obtain ⟨r, hr2, rfl⟩ := List.mem_map.1 hp
      obtain ⟨⟨Ad, cd, _, _, _, hb⟩, _⟩ := hq r (List.mem_range.1 hr2)
      exact hb
end Go.Proofs.Ytjefgdggjchhbaa.Open
