/- The row of FrameBack, where what it reads is of bulk at most 1048576: out of its pure statement and the printed walk. Condition: the bulk. (Made after the printed rows: a row of rows of bytes is opened by the library's law.) -/
import Derived.Test.YtdcggaaaknafmaaRows
import Derived.Test.YtdcggaaaknafmaaDoor
import Derived.Test.YtdcggaaaknafmaaPAllx7
import Derived.Test.YtdcggaaaknafmaaPureFrameBack
import Derived.WalkKit
import Derived.ProofKit
import Derived.OpenShut
import Derived.ShutString
import Derived.ChangeOld
import Derived.Below
import Derived.SizedLaws
import Derived.JoinedCond
import Derived.Deep.CondSized
import Derived.Deep.Matrix
import Derived.Test.YtdcggaaaknafmaaBulk
import Derived.Test.YtdcggaaaknafmaaVWSized
namespace Go.Proofs.Ytdcggaaaknafmaa.frameBackU
open Go.ChangeShapes Go.WideShapes Go.ChangeAt Go.RowKit
open Go.Proofs.YtdcggaaaknafmaaVW.PrintWords Go.Proofs.YtdcggaaaknafmaaVW.PrintLast Go.Proofs.Ytdcggaaaknafmaa.PAll
open Go.ChangeMaps (open_string shut_string)
open Go.Deep (open_int_rows intRow intRowPlaces)
set_option linter.unusedVariables false
theorem own : ownKnob Try.prog.godebug = none := by kernel_rfl
theorem laidOut : laidOutB Try.prog = true := by kernel_rfl
def IsRow (k : IntKind) (w : World) (a : Option Addr) (len cap : Nat) (zs : List Int) : Prop :=
  (a = none ∧ len = 0 ∧ cap = 0 ∧ zs = []) ∨
  ∃ x, a = some x ∧ len ≤ cap ∧ cap ≤ maxLen ∧ zs.length = cap ∧ (∀ i, i < zs.length → w.cell? (x.add i) = some (.int k (zs.getD i 0))) ∧ ∀ n ∈ zs, (Lit.int k n).wf = true
/-- A row of rows of bytes, as it is read. -/
def IsRows (w : World) (a : Option Addr) (cap : Nat) (l : List (List Int)) : Prop :=
  Kd.C (Kd.slice 5 (Kd.int .u8)) w a l.length l ∧ l.length ≤ cap ∧ ∀ p ∈ l, Leb.Bytes p
theorem bulk_row {H : Type} {A : Option Addr} {L : Nat} {zs : List Int} (hA : A = none → L = 0) (hL : L ≤ zs.length) : L + 1 ≤ Rows.uptoBulk (intRow (H := H) .u8 A L zs) := by
  cases A with
  | none => rw [hA rfl]; exact Bulk.one_le _
  | some a =>
    have h1 := Bulk.all_le (lits (H := H) .u8 (zs.take L))
    have h2 : (lits (H := H) .u8 (zs.take L)).length = L := by simp [lits]; omega
    simp only [intRow, Rows.uptoBulk]
    omega
theorem bulk_rows {H : Type} (A : Nat → Option Addr) (L : Nat → Nat) (Z : Nat → List Int) : ∀ xs : List Nat, (∀ r ∈ xs, (A r = none → L r = 0) ∧ L r ≤ (Z r).length) →
    ((xs.map (fun r => (Z r).take (L r))).map List.length).sum + xs.length ≤ Rows.uptoBulkAll (xs.map (fun r => intRow (H := H) .u8 (A r) (L r) (Z r)))
  | [], _ => by simp [Rows.uptoBulkAll]
  | r :: xs, h => by
    have h1 := bulk_row (H := H) (h r List.mem_cons_self).1 (h r List.mem_cons_self).2
    have h2 := bulk_rows (H := H) A L Z xs (fun q hq => h q (List.mem_cons_of_mem _ hq))
    have h3 : ((Z r).take (L r)).length = L r := by rw [List.length_take]; have := (h r List.mem_cons_self).2; omega
    simp only [List.map_cons, List.sum_cons, List.length_cons, Rows.uptoBulkAll, h3]
    omega
theorem opened {H : Type} {enc : TypeId × Value → H} {w : World} {held : Bool} {a0 : Option Addr} {len0 cap0 : Nat} {d : DataW H} {ps : List MemPlace}
    (h : DataW.Trod enc Try.prog w 0 (fun _ => true) held 53 (.slice a0 len0 cap0) d ps) : ∃ l, len0 = l.length ∧ IsRows w a0 cap0 l ∧ (l.map List.length).sum + l.length ≤ Rows.uptoBulk d := by
  obtain ⟨fuel, hf⟩ := h
  rcases open_int_rows Try.underlying53 Try.underlying27 Try.underlying5 (by kernel_rfl) (by kernel_rfl) hf with ⟨hcs, hx⟩ | ⟨a, len, cap, A, L, C, Z, hcs, _, hl, hm, hx, hr⟩
  · simp [Value.cells] at hcs
    obtain ⟨rfl, rfl, rfl⟩ := hcs
    exact ⟨[], rfl, ⟨⟨rfl, by decide, fun h => absurd h (by decide)⟩, Nat.le_refl _, fun p hp => by simp at hp⟩, by simp⟩
  · simp [Value.cells] at hcs
    obtain ⟨rfl, rfl, rfl⟩ := hcs
    obtain ⟨rfl, _⟩ := Prod.mk.inj hx
    have hlen : ((List.range len0).map (fun r => (Z r).take (L r))).length = len0 := by simp
    have hz : ∀ r, r < len0 → L r ≤ (Z r).length := fun r hr2 => by have := hr r (by omega); omega
    have hnone : ∀ r, r < len0 → A r = none → L r = 0 := fun r hr2 hA => by
      obtain ⟨_, h1, _, _, _, h2, _⟩ := hr r (by omega)
      have := h2 hA
      omega
    refine ⟨(List.range len0).map (fun r => (Z r).take (L r)), hlen.symm, ⟨⟨rfl, by rw [hlen]; unfold maxLen at hm; omega, fun hn => ⟨a, rfl, fun j p hj => ?_⟩⟩, by rw [hlen]; exact hl, fun p hp => ?_⟩, ?_⟩
    · rw [List.getElem?_map] at hj
      obtain ⟨j', hj', rfl⟩ := Option.map_eq_some_iff.1 hj
      have hjl : j < len0 := by
        have := (List.getElem?_eq_some_iff.1 hj').1
        simpa using this
      have hjj : j' = j := by
        rw [List.getElem?_range hjl] at hj'
        exact (Option.some.inj hj').symm
      subst hjj
      obtain ⟨r1, r2, r3, r4, r5, r6, r7⟩ := hr j' (by omega)
      have hp : ((Z j').take (L j')).length = L j' := by rw [List.length_take]; omega
      refine ⟨[.slice (A j') ((Z j').take (L j')).length (C j')], rfl, ⟨A j', C j', rfl, by rw [hp]; exact r2, Kd.C_of_reads (d := (0 : Int)) (h1 := fun _ => rfl) ⟨rfl, by rw [hp]; unfold maxLen at r3; omega, fun hn2 => ?_⟩⟩, fun i u hu => ?_⟩
      · rw [hp] at hn2 ⊢
        cases hA : A j' with
        | none => have := r6 hA; omega
        | some a' =>
          refine ⟨a', rfl, fun c hc => ?_⟩
          rw [(r7 a' hA).2 c (by omega)]
          have e : (Z j').getD c 0 = ((Z j').take (L j')).getD c 0 := by
            rw [List.getD_eq_getElem?_getD, List.getD_eq_getElem?_getD, List.getElem?_take, if_pos hc]
          rw [e]
      · match i, hu with
        | 0, hu =>
          have hu2 : Value.slice (A j') ((Z j').take (L j')).length (C j') = u := by simpa using hu
          rw [← hu2, hp]
          have : j' * (Kd.slice 5 (Kd.int .u8)).sz + 0 = j' := Nat.mul_one j'
          rw [this]
          exact r1
    · obtain ⟨r, hr2, rfl⟩ := List.mem_map.1 hp
      obtain ⟨_, _, _, _, r5, _, _⟩ := hr r (by have := List.mem_range.1 hr2; omega)
      exact Leb.Bytes.of_wf (fun x hx => r5 x (List.mem_of_mem_take hx))
    · have hb := bulk_rows (H := H) A L Z (List.range len0) (fun r hr2 => ⟨hnone r (List.mem_range.1 hr2), hz r (List.mem_range.1 hr2)⟩)
      rw [hlen]
      rw [List.length_range] at hb
      simp only [Rows.uptoBulk]
      omega
theorem walk (a0 : Option Addr) (cap0 : Nat) (l0 : List (List Int)) (a1 : Option Addr) (len1 cap1 : Nat) (z1 : List Int) (a2 : Int) (w : World) (w0 : IsRows w a0 cap0 l0) (w1 : (a1 = none ∧ len1 = 0 ∧ cap1 = 0 ∧ z1 = []) ∨ ∃ x, a1 = some x ∧ len1 ≤ cap1 ∧ cap1 ≤ maxLen ∧ z1.length = cap1 ∧ (∀ i, i < z1.length → w.cell? (x.add i) = some (.int .u8 (z1.getD i 0))) ∧ ∀ n ∈ z1, (Lit.int .u8 n).wf = true) (w2 : (Lit.int .i64 a2).wf = true) (hu0 : (l0.map List.length).sum + l0.length ≤ 1048576) (hu1 : len1 ≤ 1048576) :
    Calls Try.prog 12 #[.slice a0 l0.length cap0, .slice a1 len1 cap1, .int .i64 a2] w fun e w' => e = .returned (.bool true) ∧ Below w.heap.size w w' := by
  obtain ⟨l1, rfl, hr1, hm1, hw1, hc1⟩ := ReadsInt.ofRowC w1
  obtain ⟨k, h⟩ := Pure.FrameBackU l0 l1 a2 w0.2.2 (Leb.Bytes.of_wf hw1) w2 hu0 hu1
  refine (PAll.stooklaw03_FrameBack.calls k _ _ l0 _ _ l1 a2 true w w0.1 w0.2.1 (Kd.C_of_reads (d := (0 : Int)) (h1 := fun _ => rfl) hr1) hc1 h).mono ?_
  rintro e w' ⟨rfl, hd⟩
  exact ⟨rfl, hd⟩
set_option maxRecDepth 100000 in
theorem lifted (os : Os) (started : os.Started) (H : Type) (enc : TypeId × Value → H) (F : Stop.Interp) :
    ReturnsInHanded {} Try.checked os 12 .any ((Rows.OpenSpec.upto Rows.frameBackSpec).pre6 enc Try.prog Try.f12 Rows.frameBackUptoRow.domain false) (((Rows.OpenSpec.upto Rows.frameBackSpec).at F).post enc Try.prog Try.f12 false true false false) := by
  refine returnsInHanded_of_cond_sized (C := Try.checked) (s := Rows.OpenSpec.upto Rows.frameBackSpec) (k := Rows.uptoSmall) rfl own started (by kernel_rfl) Try.func12
    (OpenSpec.witness (enc := enc) (C := Try.checked) (s := Rows.OpenSpec.upto Rows.frameBackSpec) (k := Rows.uptoSmall) rfl false ⟨#[], #[.slice none 0 0, .slice none 0 0, .int .i64 0], []⟩ 8 (by kernel_rfl) (by kernel_rfl) (by kernel_rfl)
      (x := ([.nil, .nil, .lit (.int .i64 0)], [], [])) (by kernel_rfl) rfl (by kernel_rfl)) ?_
  intro W base args ds gs before hval0 hW hcnd hkk hsz0 _
  have hval : ∀ (j : Nat) t v, Try.f12.params[j]? = some t → args[j]? = some v → Value.okWide Try.prog W .any base t v := hval0
  have hW' := hW
  obtain ⟨p, q, hA0, hV, rfl, hfz, hnd⟩ := hW
  have hA : DataW.TrodAll enc Try.prog W 0 (fun _ => true) true Try.f12.params.toList args.toList ds p := hA0
  rw [Try.params12] at hA hval
  obtain ⟨v0, vs0, d0, ds0, p0, q0, hargs, rfl, rfl, h0, r0⟩ := trodAll_cons hA
  obtain ⟨v1, vs1, d1, ds1, p1, q1, rfl, rfl, rfl, h1, r1⟩ := trodAll_cons r0
  obtain ⟨v2, vs2, d2, ds2, p2, q2, rfl, rfl, rfl, h2, r2⟩ := trodAll_cons r1
  obtain ⟨rfl, rfl, rfl⟩ := trodAll_nil r2
  obtain rfl : args = #[v0, v1, v2] := by cases args; simp_all
  obtain ⟨rfl, rfl⟩ := trodVars_none hV
  obtain ⟨a0, len0, cap0, rfl⟩ := okWide_slice Try.underlying53 (hval 0 53 v0 rfl rfl)
  have k0 := h0
  have lt0 : ∀ x ∈ p0, x.block < W.heap.size := by obtain ⟨m, hm⟩ := k0; exact DataW.trod_lt m _ _ _ hm
  obtain ⟨l0, rfl, w0, b0⟩ := opened h0
  obtain ⟨a1, len1, cap1, rfl⟩ := okWide_slice Try.underlying27 (hval 1 27 v1 rfl rfl)
  have k1 := h1
  have lt1 : ∀ x ∈ p1, x.block < W.heap.size := by obtain ⟨m, hm⟩ := k1; exact DataW.trod_lt m _ _ _ hm
  obtain ⟨z1, w1⟩ : ∃ zs, IsRow .u8 W a1 len1 cap1 zs := by
    obtain ⟨fuel, hf⟩ := h1
    rcases open_ints Try.underlying27 Try.underlying5 (by kernel_rfl) hf with ⟨hcs, _⟩ | ⟨x, l, c, zs, hcs, _, hl, hm, hz, _, hcell, hwz⟩
    · simp [Value.cells] at hcs
      obtain ⟨rfl, rfl, rfl⟩ := hcs
      exact ⟨[], .inl ⟨rfl, rfl, rfl, rfl⟩⟩
    · simp [Value.cells] at hcs
      obtain ⟨rfl, rfl, rfl⟩ := hcs
      exact ⟨zs, .inr ⟨_, rfl, hl, hm, by simpa using hz, hcell, hwz⟩⟩
  have b1 := Bulk.ints (H := H) Try.underlying27 Try.underlying5 (by kernel_rfl) h1
  obtain ⟨a2, rfl, rfl, rfl, w2⟩ := open_int Try.underlying3 (hval 2 3 v2 rfl rfl) h2
  have hu : (l0.map List.length).sum + l0.length + len1 ≤ 1048576 := by
    have h_ := of_decide_eq_true hkk
    simp only [List.append_nil, Rows.uptoBulkAll] at h_
    omega
  clear hA0 hval0 hsz0
  refine (walk a0 cap0 l0 a1 len1 cap1 z1 a2 W w0 w1 w2 (by omega) (by omega)).mono fun e W' ⟨he, bel⟩ => ?_
  subst he
  exact ⟨_, rfl, _, _, _, [], _, [], hW', trodAll_mk1 (shut_bool Try.underlying4 _), (trodAll_cons_mk (Below.trod laidOut (by kernel_rfl) (of_decide_eq_true (by kernel_rfl)) k0 bel lt0) (trodAll_cons_mk (Below.trod laidOut (by kernel_rfl) (of_decide_eq_true (by kernel_rfl)) k1 bel lt1) (trodAll_cons_mk (shut_int Try.underlying3 w2) trodAll_mk0))), rfl, bel.frame _, fun h => by cases h⟩
theorem over : Rows.frameBackUptoRow.holds Try.pinned (Rows.OpenSpec.upto Rows.frameBackSpec) :=
  OpenClaim.holds_of_cond 12 Try.f12 rfl rfl rfl rfl rfl rfl rfl ⟨rfl, rfl, rfl, rfl, rfl⟩ rfl rfl rfl rfl rfl (by kernel_rfl) Try.func12 (by unfold joinedFacts; rw [Door.may, Door.lifts, Door.make]; kernel_rfl)
    (of_decide_eq_true (by kernel_rfl)) (by unfold Func.isWrapper; first | (rw [if_pos (by decide +kernel)]; kernel_rfl) | (rw [if_neg (by decide +kernel)]; exact ⟨rfl, rfl⟩))
    (fun os started H enc _ F => lifted os started H enc F)
theorem proved : Rows.FrameBackUptoSaid := over
#print axioms proved
end Go.Proofs.Ytdcggaaaknafmaa.frameBackU
namespace Go.Proofs.Ytdcggaaaknafmaa
/-- The row, under a short name, for the claim. -/
theorem frameBackUpto_holds : Rows.FrameBackUptoSaid := frameBackU.proved
end Go.Proofs.Ytdcggaaaknafmaa
