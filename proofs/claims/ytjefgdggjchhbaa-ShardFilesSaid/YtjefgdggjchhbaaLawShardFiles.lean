/- The row of ShardFiles, out of its walk by hand. No condition. (Made after the printed rows.) -/
import Derived.Test.YtjefgdggjchhbaaRows
import Derived.Test.YtjefgdggjchhbaaDoor
import Derived.Test.YtjefgdggjchhbaaFilesWalk
import Derived.Test.YtjefgdggjchhbaaOpenActs
import Derived.WalkKit
import Derived.ProofKit
import Derived.OpenShut
import Derived.ShutString
import Derived.ChangeOld
import Derived.Below
import Derived.SizedLaws
import Derived.Test.YtjefgdggjchhbaaVWMost
namespace Go.Proofs.Ytjefgdggjchhbaa.shardFiles
open Go.ChangeShapes Go.WideShapes Go.ChangeAt Go.RowKit
open Go.ChangeMaps (open_string shut_string)
set_option linter.unusedVariables false
theorem own : ownKnob Try.prog.godebug = none := by kernel_rfl
theorem laidOut : laidOutB Try.prog = true := by kernel_rfl
def IsRow (k : IntKind) (w : World) (a : Option Addr) (len cap : Nat) (zs : List Int) : Prop :=
  (a = none ∧ len = 0 ∧ cap = 0 ∧ zs = []) ∨
  ∃ x, a = some x ∧ len ≤ cap ∧ cap ≤ maxLen ∧ zs.length = cap ∧ (∀ i, i < zs.length → w.cell? (x.add i) = some (.int k (zs.getD i 0))) ∧ ∀ n ∈ zs, (Lit.int k n).wf = true
open Go.Proofs.YtjefgdggjchhbaaVW.PrintWords Go.Proofs.YtjefgdggjchhbaaVW.PrintLast in
theorem walk (a0 : Int) (a1 : Int) (a2 : Option Addr) (cap2 : Nat) (l2 : List (Int × Int × Bool × List Int)) (w : World) (w0 : (Lit.int .i64 a0).wf = true) (w1 : (Lit.int .i64 a1).wf = true) (w2 : Open.IsActs w a2 cap2 l2) :
    Calls Try.prog 7 #[.int .i64 a0, .int .i64 a1, .slice a2 l2.length cap2] w fun e w' => e = .returned (.bool true) ∧ Below w.heap.size w w' := by
  obtain ⟨k, hk⟩ : ∃ k, k = 5000000 := ⟨_, rfl⟩
  have hlv : PAll.Living k := Pure.shardlives_f k (by omega)
  have h1 := Pure.head_f k (by omega) a1
  have h2 := Pure.refhead_f k (by omega) a1
  have hs := Pure.hput_some (n := a1)
  clear hk
  by_cases hb : a0 < 0 ∨ 1048576 < a0
  · exact PAll.files_bad hlv hb
  have ha : ¬ a0 < 0 := fun h => hb (.inl h)
  have hz : ¬ 1048576 < a0 := fun h => hb (.inr h)
  generalize Pure.hput a1 = p at h1 h2 hs
  obtain ⟨b, q⟩ := p
  by_cases hq : q = 0
  · subst hq
    obtain ⟨hby, hl⟩ := hs rfl
    replace hl : 0 < b.length := hl
    replace hby : Leb.Bytes b := hby
    by_cases hf : a0 < b.length
    · exact PAll.files_full hlv ha hz h1 h2 hl hf
    · exact PAll.files_loop hlv w2.1 w2.2.1 w2.2.2 ha hz h1 h2 hl (by omega) hby
  · exact PAll.files_head hlv ha hz h1 h2 hq
set_option maxRecDepth 100000 in
theorem lifted (os : Os) (started : os.Started) (H : Type) (enc : TypeId × Value → H) :
    ReturnsInHanded {} Try.checked os 7 .any (Rows.shardFilesSpec.pre6 enc Try.prog Try.f7 Rows.shardFilesRow.domain false) (Rows.shardFilesSpec.post enc Try.prog Try.f7 false true false false) := by
  refine returnsInHanded_of_change_sized (C := Try.checked) own started (by kernel_rfl) Try.func7
    (ChangeSpec.witness6 (enc := enc) (C := Try.checked) false ⟨#[], #[.int .i64 0, .int .i64 0, .slice none 0 0], []⟩ 8 (by kernel_rfl) (by kernel_rfl) (by kernel_rfl) (by kernel_rfl)) ?_
  intro W base args ds gs before hval0 hW hcnd hsz0 _
  have hsz : (DataW.weightsEach Try.prog (Try.f7.params.toList ++ Rows.shardFilesSpec.plain.varTypes Try.prog) (ds ++ gs)).all (· ≤ reachBytes) = true := hsz0
  have hval : ∀ (j : Nat) t v, Try.f7.params[j]? = some t → args[j]? = some v → Value.okWide Try.prog W .any base t v := hval0
  have hW' := hW
  obtain ⟨p, q, hA0, hV, rfl, hfz, hnd⟩ := hW
  have hA : DataW.TrodAll enc Try.prog W 0 (fun _ => true) true Try.f7.params.toList args.toList ds p := hA0
  rw [Try.params7] at hA hval hsz
  obtain ⟨v0, vs0, d0, ds0, p0, q0, hargs, rfl, rfl, h0, r0⟩ := trodAll_cons hA
  obtain ⟨v1, vs1, d1, ds1, p1, q1, rfl, rfl, rfl, h1, r1⟩ := trodAll_cons r0
  obtain ⟨v2, vs2, d2, ds2, p2, q2, rfl, rfl, rfl, h2, r2⟩ := trodAll_cons r1
  obtain ⟨rfl, rfl, rfl⟩ := trodAll_nil r2
  obtain rfl : args = #[v0, v1, v2] := by cases args; simp_all
  obtain ⟨rfl, rfl⟩ := trodVars_none hV
  obtain ⟨a0, rfl, rfl, rfl, w0⟩ := open_int Try.underlying3 (hval 0 3 v0 rfl rfl) h0
  obtain ⟨a1, rfl, rfl, rfl, w1⟩ := open_int Try.underlying3 (hval 1 3 v1 rfl rfl) h1
  obtain ⟨a2, len2, cap2, rfl⟩ := okWide_slice Try.underlying53 (hval 2 53 v2 rfl rfl)
  have k2 := h2
  have lt2 : ∀ x ∈ p2, x.block < W.heap.size := by obtain ⟨m, hm⟩ := k2; exact DataW.trod_lt m _ _ _ hm
  obtain ⟨l2, rfl, w2⟩ := Open.opened h2
  clear hA0 hval0 hsz0 hsz
  refine (walk a0 a1 a2 cap2 l2 W w0 w1 w2).mono fun e W' ⟨he, bel⟩ => ?_
  subst he
  exact ⟨_, rfl, _, _, _, [], _, [], hW', trodAll_mk1 (shut_bool Try.underlying4 _), (trodAll_cons_mk (shut_int Try.underlying3 w0) (trodAll_cons_mk (shut_int Try.underlying3 w1) (trodAll_cons_mk (Below.trod laidOut (by kernel_rfl) (of_decide_eq_true (by kernel_rfl)) k2 bel lt2) trodAll_mk0))), rfl, bel.frame _, fun h => by cases h⟩
theorem over : Rows.shardFilesRow.holds Try.pinned (OpenSpec.ofChange Rows.shardFilesSpec) :=
  OpenClaim.holds_of_wide 7 Try.f7 rfl rfl rfl rfl rfl rfl rfl ⟨rfl, rfl, rfl, rfl, rfl⟩ rfl rfl rfl rfl rfl (by kernel_rfl) Try.func7 (by unfold joinedFacts; rw [Door.may, Door.lifts, Door.make]; kernel_rfl)
    (of_decide_eq_true (by kernel_rfl)) (by unfold Func.isWrapper; first | (rw [if_pos (by decide +kernel)]; kernel_rfl) | (rw [if_neg (by decide +kernel)]; exact ⟨rfl, rfl⟩))
    (fun os started H enc _ => lifted os started H enc)
theorem proved : Rows.ShardFilesSaid := over
#print axioms proved
end Go.Proofs.Ytjefgdggjchhbaa.shardFiles
namespace Go.Proofs.Ytjefgdggjchhbaa
/-- The row, under a short name, for the claim. -/
theorem shardFiles_holds : Rows.ShardFilesSaid := shardFiles.proved
end Go.Proofs.Ytjefgdggjchhbaa
