/- A row of rows of bytes, opened. -/
import Derived.Test.YtjefgdggjchhbaaRows
import Derived.Test.YtjefgdggjchhbaaPShard
import Derived.WalkKit
import Derived.ProofKit
import Derived.OpenShut
import Derived.Deep.Matrix
import Derived.Test.YtjefgdggjchhbaaBulk
import Derived.Test.YtjefgdggjchhbaaVWMost
namespace Go.Proofs.Ytjefgdggjchhbaa.Open
open Go.ChangeShapes Go.WideShapes Go.ChangeAt Go.RowKit
open Go.Proofs.YtjefgdggjchhbaaVW.PrintWords Go.Proofs.YtjefgdggjchhbaaVW.PrintLast Go.Proofs.Ytjefgdggjchhbaa.PAll
open Go.Deep (open_int_rows intRow intRowPlaces)
set_option linter.unusedVariables false
/-- A row of rows of bytes, as it is read. -/
def IsRows (w : World) (a : Option Addr) (cap : Nat) (l : List (List Int)) : Prop :=
  Kd.C (Kd.slice 5 (Kd.int .u8)) w a l.length l ∧ l.length ≤ cap ∧ ∀ p ∈ l, Leb.Bytes p
theorem bulk_row {H : Type} {A : Option Addr} {L : Nat} {zs : List Int} (hA : A = none → L = 0) (hL : L ≤ zs.length) : L + 1 ≤ Rows.uptoBulk (intRow (H := H) .u8 A L zs) := by
  cases A with
  | none => rw [hA rfl]; exact Bulk.one_le _
  | some a =>
    have h1 := Bulk.all_le (lits (H := H) .u8 (zs.take L))
    have h2 : (lits (H := H) .u8 (zs.take L)).length = L := by simp [lits]; omega
    simp only [intRow, Rows.uptoBulk]
    omega
theorem bulk_rows {H : Type} (A : Nat → Option Addr) (L : Nat → Nat) (Z : Nat → List Int) : ∀ xs : List Nat, (∀ r ∈ xs, (A r = none → L r = 0) ∧ L r ≤ (Z r).length) →
    ((xs.map (fun r => (Z r).take (L r))).map List.length).sum + xs.length ≤ Rows.uptoBulkAll (xs.map (fun r => intRow (H := H) .u8 (A r) (L r) (Z r)))
  | [], _ => by simp [Rows.uptoBulkAll]
  | r :: xs, h => by
    have h1 := bulk_row (H := H) (h r List.mem_cons_self).1 (h r List.mem_cons_self).2
    have h2 := bulk_rows (H := H) A L Z xs (fun q hq => h q (List.mem_cons_of_mem _ hq))
    have h3 : ((Z r).take (L r)).length = L r := by rw [List.length_take]; have := (h r List.mem_cons_self).2; omega
    simp only [List.map_cons, List.sum_cons, List.length_cons, Rows.uptoBulkAll, h3]
    omega
theorem opened {H : Type} {enc : TypeId × Value → H} {w : World} {held : Bool} {a0 : Option Addr} {len0 cap0 : Nat} {d : DataW H} {ps : List MemPlace}
    (h : DataW.Trod enc Try.prog w 0 (fun _ => true) held 38 (.slice a0 len0 cap0) d ps) : ∃ l, len0 = l.length ∧ IsRows w a0 cap0 l ∧ (l.map List.length).sum + l.length ≤ Rows.uptoBulk d := by
  obtain ⟨fuel, hf⟩ := h
  rcases open_int_rows Try.underlying38 Try.underlying22 Try.underlying5 (by kernel_rfl) (by kernel_rfl) hf with ⟨hcs, hx⟩ | ⟨a, len, cap, A, L, C, Z, hcs, _, hl, hm, hx, hr⟩
  · simp [Value.cells] at hcs
    obtain ⟨rfl, rfl, rfl⟩ := hcs
    exact ⟨[], rfl, ⟨⟨rfl, by decide, fun h => absurd h (by decide)⟩, Nat.le_refl _, fun p hp => by simp at hp⟩, by simp⟩
  · simp [Value.cells] at hcs
    obtain ⟨rfl, rfl, rfl⟩ := hcs
    obtain ⟨rfl, _⟩ := Prod.mk.inj hx
    have hlen : ((List.range len0).map (fun r => (Z r).take (L r))).length = len0 := by simp
    have hz : ∀ r, r < len0 → L r ≤ (Z r).length := fun r hr2 => by have := hr r (by omega); omega
    have hnone : ∀ r, r < len0 → A r = none → L r = 0 := fun r hr2 hA => by
      obtain ⟨_, h1, _, _, _, h2, _⟩ := hr r (by omega)
      have := h2 hA
      omega
    refine ⟨(List.range len0).map (fun r => (Z r).take (L r)), hlen.symm, ⟨⟨rfl, by rw [hlen]; unfold maxLen at hm; omega, fun hn => ⟨a, rfl, fun j p hj => ?_⟩⟩, by rw [hlen]; exact hl, fun p hp => ?_⟩, ?_⟩
    · rw [List.getElem?_map] at hj
      obtain ⟨j', hj', rfl⟩ := Option.map_eq_some_iff.1 hj
      have hjl : j < len0 := by
        have := (List.getElem?_eq_some_iff.1 hj').1
        simpa using this
      have hjj : j' = j := by
        rw [List.getElem?_range hjl] at hj'
        exact (Option.some.inj hj').symm
      subst hjj
      obtain ⟨r1, r2, r3, r4, r5, r6, r7⟩ := hr j' (by omega)
      have hp : ((Z j').take (L j')).length = L j' := by rw [List.length_take]; omega
      refine ⟨[.slice (A j') ((Z j').take (L j')).length (C j')], rfl, ⟨A j', C j', rfl, by rw [hp]; exact r2, Kd.C_of_reads (d := (0 : Int)) (h1 := fun _ => rfl) ⟨rfl, by rw [hp]; unfold maxLen at r3; omega, fun hn2 => ?_⟩⟩, fun i u hu => ?_⟩
      · rw [hp] at hn2 ⊢
        cases hA : A j' with
        | none => have := r6 hA; omega
        | some a' =>
          refine ⟨a', rfl, fun c hc => ?_⟩
          rw [(r7 a' hA).2 c (by omega)]
          have e : (Z j').getD c 0 = ((Z j').take (L j')).getD c 0 := by
            rw [List.getD_eq_getElem?_getD, List.getD_eq_getElem?_getD, List.getElem?_take, if_pos hc]
          rw [e]
      · match i, hu with
        | 0, hu =>
          have hu2 : Value.slice (A j') ((Z j').take (L j')).length (C j') = u := by simpa using hu
          rw [← hu2, hp]
          have : j' * (Kd.slice 5 (Kd.int .u8)).sz + 0 = j' := Nat.mul_one j'
          rw [this]
          exact r1
    · obtain ⟨r, hr2, rfl⟩ := List.mem_map.1 hp
      obtain ⟨_, _, _, _, r5, _, _⟩ := hr r (by have := List.mem_range.1 hr2; omega)
      exact Leb.Bytes.of_wf (fun x hx => r5 x (List.mem_of_mem_take hx))
    · have hb := bulk_rows (H := H) A L Z (List.range len0) (fun r hr2 => ⟨hnone r (List.mem_range.1 hr2), hz r (List.mem_range.1 hr2)⟩)
      rw [hlen]
      rw [List.length_range] at hb
      simp only [Rows.uptoBulk]
      omega
end Go.Proofs.Ytjefgdggjchhbaa.Open
