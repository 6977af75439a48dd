/- The row of LebFresh, where what it reads is of bulk at most 1048576: out of its walk by hand. Condition: the bulk. (Made after the printed rows.) -/
import Derived.Test.YtldokdcmmjnmfaaRows
import Derived.Test.YtldokdcmmjnmfaaDoor
import Derived.Test.YtldokdcmmjnmfaaLWalk
import Derived.Test.YtldokdcmmjnmfaaPLebThree
import Derived.Test.YtldokdcmmjnmfaaPLebWorks
import Derived.WalkKit
import Derived.ProofKit
import Derived.OpenShut
import Derived.ShutString
import Derived.ChangeOld
import Derived.Below
import Derived.SizedLaws
import Derived.JoinedCond
import Derived.Deep.CondSized
import Derived.Test.YtldokdcmmjnmfaaBulk
import Derived.Test.YtldokdcmmjnmfaaVWSized
namespace Go.Proofs.Ytldokdcmmjnmfaa.Pure
open Go Go.RowKit Go.Proofs.Ytldokdcmmjnmfaa.PAll Go.Proofs.Ytldokdcmmjnmfaa.Crc Go.Proofs.Ytldokdcmmjnmfaa.Leb Go.Proofs.YtldokdcmmjnmfaaVW.PrintWords Go.Proofs.YtldokdcmmjnmfaaVW.PrintLast
theorem fresh_law (A0 : Option Addr) (c0 : Nat) (l0 : List Int) (A1 : Option Addr) (c1 : Nat) (l1 : List Int) (w : World) (hr0 : Kd.C (Kd.int .u8) w A0 l0.length l0) (hc0 : l0.length ≤ c0) (hw0 : ∀ x ∈ l0, (Lit.int .u8 x).wf = true)
    (hr1 : Kd.C (Kd.int .u64) w A1 l1.length l1) (hc1 : l1.length ≤ c1) (hw1 : ∀ x ∈ l1, (Lit.int .u64 x).wf = true) (hu : l0.length + l1.length ≤ 1048576) :
    Calls Try.prog 3 #[.slice A0 l0.length c0, .slice A1 l1.length c1] w fun e w' => e = .returned (.bool true) ∧ Below w.heap.size w w' := by
  obtain ⟨m, rfl, hm⟩ := of_words l1 hw1
  have hml := ints_len m
  have hb0 := Bytes.of_wf hw0
  have hbr : Bytes (enc l0.length ++ l0) := (bytes_enc _).append hb0
  have hbc : Bytes (enc m.length ++ encs m) := (bytes_enc _).append (by
    intro x hx
    obtain ⟨n, _, hn⟩ := List.mem_flatMap.1 hx
    exact bytes_enc n x hn)
  have h10 := enc_ten (n := l0.length) (by omega)
  have h11 := enc_ten (n := m.length) (by omega)
  have he := encs_len m hm
  have hrb : (enc l0.length ++ l0).length = (enc l0.length).length + l0.length := List.length_append
  have hrc : (enc m.length ++ encs m).length = (enc m.length).length + (encs m).length := List.length_append
  have hyl := lists_len (enc m.length ++ encs m) 0 ((ints m).length : Int) hbc (by omega)
  obtain ⟨k, hk⟩ : ∃ k, k = 12 * m.length + l0.length + 100 := ⟨_, rfl⟩
  refine PAll.fresh_walk k A0 c0 l0 A1 c1 (ints m) (enc l0.length ++ l0) (enc m.length ++ encs m) _ _ _ _ _ _ w hr0 hc0 hr1 hc1 (by omega) (by omega) (Nat.le_trans hyl (by omega))
    (putrow_f k l0 (by omega) (by omega)) ?_ (refputrow_f k l0 (by omega) (by omega))
    (getrow_f k _ 0 (l0.length : Int) hbr (by omega) (by omega) (by omega)) ?_ (putlist_f k m hm (by omega) (by omega)) (refputlist_f k m hm (by omega) (by omega))
    (getlist_f k _ 0 ((ints m).length : Int) hbc (by omega) (by omega) (by omega)) (same_self k _ (by omega) (by omega)) (same_self k _ (by omega) (by omega)) (same_self k _ (by omega) (by omega)) (words_self k _ (by omega) (by omega)) (lebworks_f k (by omega))
  · intro t ht
    rw [wu64 (by omega) (by omega), put_one k l0.length (by omega) (by omega)] at ht
    obtain rfl := Option.some.inj ht
    exact enc_pos _
  · unfold stookref00_CopyWords.f
    rw [if_pos (by rw [List.length_nil]; omega), List.nil_append]
end Go.Proofs.Ytldokdcmmjnmfaa.Pure
namespace Go.Proofs.Ytldokdcmmjnmfaa.lebFreshU
open Go.ChangeShapes Go.WideShapes Go.ChangeAt Go.RowKit
open Go.Proofs.YtldokdcmmjnmfaaVW.PrintWords Go.Proofs.YtldokdcmmjnmfaaVW.PrintLast Go.Proofs.Ytldokdcmmjnmfaa.PAll
open Go.ChangeMaps (open_string shut_string)
set_option linter.unusedVariables false
theorem own : ownKnob Try.prog.godebug = none := by kernel_rfl
theorem laidOut : laidOutB Try.prog = true := by kernel_rfl
def IsRow (k : IntKind) (w : World) (a : Option Addr) (len cap : Nat) (zs : List Int) : Prop :=
  (a = none ∧ len = 0 ∧ cap = 0 ∧ zs = []) ∨
  ∃ x, a = some x ∧ len ≤ cap ∧ cap ≤ maxLen ∧ zs.length = cap ∧ (∀ i, i < zs.length → w.cell? (x.add i) = some (.int k (zs.getD i 0))) ∧ ∀ n ∈ zs, (Lit.int k n).wf = true
theorem walk (a0 : Option Addr) (len0 cap0 : Nat) (z0 : List Int) (a1 : Option Addr) (len1 cap1 : Nat) (z1 : List Int) (w : World) (w0 : (a0 = none ∧ len0 = 0 ∧ cap0 = 0 ∧ z0 = []) ∨ ∃ x, a0 = some x ∧ len0 ≤ cap0 ∧ cap0 ≤ maxLen ∧ z0.length = cap0 ∧ (∀ i, i < z0.length → w.cell? (x.add i) = some (.int .u8 (z0.getD i 0))) ∧ ∀ n ∈ z0, (Lit.int .u8 n).wf = true) (w1 : (a1 = none ∧ len1 = 0 ∧ cap1 = 0 ∧ z1 = []) ∨ ∃ x, a1 = some x ∧ len1 ≤ cap1 ∧ cap1 ≤ maxLen ∧ z1.length = cap1 ∧ (∀ i, i < z1.length → w.cell? (x.add i) = some (.int .u64 (z1.getD i 0))) ∧ ∀ n ∈ z1, (Lit.int .u64 n).wf = true) (hu : len0 + len1 ≤ 1048576) :
    Calls Try.prog 3 #[.slice a0 len0 cap0, .slice a1 len1 cap1] w fun e w' => e = .returned (.bool true) ∧ Below w.heap.size w w' := by
  obtain ⟨l0, rfl, hr0, hm0, hw0, hc0⟩ := ReadsInt.ofRowC w0
  obtain ⟨l1, rfl, hr1, hm1, hw1, hc1⟩ := ReadsInt.ofRowC w1
  exact Pure.fresh_law _ _ l0 _ _ l1 w (Kd.C_of_reads (d := (0 : Int)) (h1 := fun _ => rfl) hr0) hc0 hw0 (Kd.C_of_reads (d := (0 : Int)) (h1 := fun _ => rfl) hr1) hc1 hw1 hu
set_option maxRecDepth 100000 in
theorem lifted (os : Os) (started : os.Started) (H : Type) (enc : TypeId × Value → H) (F : Stop.Interp) :
    ReturnsInHanded {} Try.checked os 3 .any ((Rows.OpenSpec.upto Rows.lebFreshSpec).pre6 enc Try.prog Try.f3 Rows.lebFreshUptoRow.domain false) (((Rows.OpenSpec.upto Rows.lebFreshSpec).at F).post enc Try.prog Try.f3 false true false false) := by
  refine returnsInHanded_of_cond_sized (C := Try.checked) (s := Rows.OpenSpec.upto Rows.lebFreshSpec) (k := Rows.uptoSmall) rfl own started (by kernel_rfl) Try.func3
    (OpenSpec.witness (enc := enc) (C := Try.checked) (s := Rows.OpenSpec.upto Rows.lebFreshSpec) (k := Rows.uptoSmall) rfl false ⟨#[], #[.slice none 0 0, .slice none 0 0], []⟩ 8 (by kernel_rfl) (by kernel_rfl) (by kernel_rfl)
      (x := ([.nil, .nil], [], [])) (by kernel_rfl) rfl (by kernel_rfl)) ?_
  intro W base args ds gs before hval0 hW hcnd hkk hsz0 _
  have hval : ∀ (j : Nat) t v, Try.f3.params[j]? = some t → args[j]? = some v → Value.okWide Try.prog W .any base t v := hval0
  have hW' := hW
  obtain ⟨p, q, hA0, hV, rfl, hfz, hnd⟩ := hW
  have hA : DataW.TrodAll enc Try.prog W 0 (fun _ => true) true Try.f3.params.toList args.toList ds p := hA0
  rw [Try.params3] at hA hval
  obtain ⟨v0, vs0, d0, ds0, p0, q0, hargs, rfl, rfl, h0, r0⟩ := trodAll_cons hA
  obtain ⟨v1, vs1, d1, ds1, p1, q1, rfl, rfl, rfl, h1, r1⟩ := trodAll_cons r0
  obtain ⟨rfl, rfl, rfl⟩ := trodAll_nil r1
  obtain rfl : args = #[v0, v1] := by cases args; simp_all
  obtain ⟨rfl, rfl⟩ := trodVars_none hV
  obtain ⟨a0, len0, cap0, rfl⟩ := okWide_slice Try.underlying22 (hval 0 22 v0 rfl rfl)
  have k0 := h0
  have lt0 : ∀ x ∈ p0, x.block < W.heap.size := by obtain ⟨m, hm⟩ := k0; exact DataW.trod_lt m _ _ _ hm
  obtain ⟨z0, w0⟩ : ∃ zs, IsRow .u8 W a0 len0 cap0 zs := by
    obtain ⟨fuel, hf⟩ := h0
    rcases open_ints Try.underlying22 Try.underlying5 (by kernel_rfl) hf with ⟨hcs, _⟩ | ⟨x, l, c, zs, hcs, _, hl, hm, hz, _, hcell, hwz⟩
    · simp [Value.cells] at hcs
      obtain ⟨rfl, rfl, rfl⟩ := hcs
      exact ⟨[], .inl ⟨rfl, rfl, rfl, rfl⟩⟩
    · simp [Value.cells] at hcs
      obtain ⟨rfl, rfl, rfl⟩ := hcs
      exact ⟨zs, .inr ⟨_, rfl, hl, hm, by simpa using hz, hcell, hwz⟩⟩
  have b0 := Bulk.ints (H := H) Try.underlying22 Try.underlying5 (by kernel_rfl) h0
  obtain ⟨a1, len1, cap1, rfl⟩ := okWide_slice Try.underlying23 (hval 1 23 v1 rfl rfl)
  have k1 := h1
  have lt1 : ∀ x ∈ p1, x.block < W.heap.size := by obtain ⟨m, hm⟩ := k1; exact DataW.trod_lt m _ _ _ hm
  obtain ⟨z1, w1⟩ : ∃ zs, IsRow .u64 W a1 len1 cap1 zs := by
    obtain ⟨fuel, hf⟩ := h1
    rcases open_ints Try.underlying23 Try.underlying33 (by kernel_rfl) hf with ⟨hcs, _⟩ | ⟨x, l, c, zs, hcs, _, hl, hm, hz, _, hcell, hwz⟩
    · simp [Value.cells] at hcs
      obtain ⟨rfl, rfl, rfl⟩ := hcs
      exact ⟨[], .inl ⟨rfl, rfl, rfl, rfl⟩⟩
    · simp [Value.cells] at hcs
      obtain ⟨rfl, rfl, rfl⟩ := hcs
      exact ⟨zs, .inr ⟨_, rfl, hl, hm, by simpa using hz, hcell, hwz⟩⟩
  have b1 := Bulk.ints (H := H) Try.underlying23 Try.underlying33 (by kernel_rfl) h1
  have hu : len0 + len1 ≤ 1048576 := by
    have h_ := of_decide_eq_true hkk
    simp only [List.append_nil, Rows.uptoBulkAll] at h_
    omega
  clear hA0 hval0 hsz0
  refine (walk a0 len0 cap0 z0 a1 len1 cap1 z1 W w0 w1 hu).mono fun e W' ⟨he, bel⟩ => ?_
  subst he
  exact ⟨_, rfl, _, _, _, [], _, [], hW', trodAll_mk1 (shut_bool Try.underlying4 _), (trodAll_cons_mk (Below.trod laidOut (by kernel_rfl) (of_decide_eq_true (by kernel_rfl)) k0 bel lt0) (trodAll_cons_mk (Below.trod laidOut (by kernel_rfl) (of_decide_eq_true (by kernel_rfl)) k1 bel lt1) trodAll_mk0)), rfl, bel.frame _, fun h => by cases h⟩
theorem over : Rows.lebFreshUptoRow.holds Try.pinned (Rows.OpenSpec.upto Rows.lebFreshSpec) :=
  OpenClaim.holds_of_cond 3 Try.f3 rfl rfl rfl rfl rfl rfl rfl ⟨rfl, rfl, rfl, rfl, rfl⟩ rfl rfl rfl rfl rfl (by kernel_rfl) Try.func3 (by unfold joinedFacts; rw [Door.may, Door.lifts, Door.make]; kernel_rfl)
    (of_decide_eq_true (by kernel_rfl)) (by unfold Func.isWrapper; first | (rw [if_pos (by decide +kernel)]; kernel_rfl) | (rw [if_neg (by decide +kernel)]; exact ⟨rfl, rfl⟩))
    (fun os started H enc _ F => lifted os started H enc F)
theorem proved : Rows.LebFreshUptoSaid := over
#print axioms proved
end Go.Proofs.Ytldokdcmmjnmfaa.lebFreshU
namespace Go.Proofs.Ytldokdcmmjnmfaa
/-- The row, under a short name, for the claim. -/
theorem lebFreshUpto_holds : Rows.LebFreshUptoSaid := lebFreshU.proved
end Go.Proofs.Ytldokdcmmjnmfaa
