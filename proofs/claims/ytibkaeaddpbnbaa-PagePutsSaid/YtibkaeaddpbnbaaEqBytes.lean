/- Two arrays of bytes, held against one another. -/
import Derived.Test.YtibkaeaddpbnbaaPutHand
import Derived.ChangeKeysEq
import Derived.Laws.StructEq
set_option linter.unusedVariables false
set_option linter.unusedSimpArgs false
namespace Go.Proofs.Ytibkaeaddpbnbaa.PAll
open Go.RowKit Go.Proofs.YtibkaeaddpbnbaaVW.PrintWords Go.Proofs.YtibkaeaddpbnbaaVW.PrintLast Go.Proofs.YtibkaeaddpbnbaaVW.PrintMore
theorem eq_from (d : Nat) (W : World) (P L : List Int) (n : Nat) (hP : P.length = n) (hL : L.length = n) (d2 : Nat) : ∀ s, s + d2 = n →
    (forIn (m := Sem) (List.range' s d2) ((none, ()) : Option Bool × Unit) fun i __s => do
            let __do_lift ← part 5 (bytes P) (i * 1)
            let __do_lift_1 ← part 5 (bytes L) (i * 1)
            let __do_lift ← Op.equalIn (d + 1) 5 __do_lift __do_lift_1
            if (!__do_lift) = true then pure (ForInStep.done (some false, ())) else pure (ForInStep.yield (none, ()))).run Try.prog W = .ok (if P.drop s = L.drop s then (none, ()) else (some false, ())) W := by
  induction d2 with
  | zero =>
    intro s hs
    rw [List.drop_of_length_le (by omega), List.drop_of_length_le (by omega), if_pos rfl]
    rfl
  | succ m ih =>
    intro s hs
    have hp : s < P.length := by omega
    have hl : s < L.length := by omega
    have h5 : Try.prog.plainKey 5 = true := by kernel_rfl
    have e1 : (part 5 (bytes P) (s * 1)).run Try.prog W = .ok (.int .u8 (P[s]'hp)) W := run_part_plain W h5 (by rw [Nat.mul_one]; simp [bytes, hp])
    have e2 : (part 5 (bytes L) (s * 1)).run Try.prog W = .ok (.int .u8 (L[s]'hl)) W := run_part_plain W h5 (by rw [Nat.mul_one]; simp [bytes, hl])
    rw [List.range'_succ, List.forIn_cons]
    simp only [Sem.run_bind, e1, e2, Result.andThen_ok, run_equalIn_int W d 5 .u8 .u8 _ _ Try.underlying5]
    rw [List.drop_eq_getElem_cons hp, List.drop_eq_getElem_cons hl]
    by_cases he : P[s]'hp = L[s]'hl
    · have hb : (P[s]'hp == L[s]'hl) = true := beq_iff_eq.mpr he
      rw [hb]
      simp only [Bool.not_true, Bool.false_eq_true, if_false, Sem.run_pure, Result.andThen_ok]
      rw [ih (s + 1) (by omega), he]
      congr 1
      by_cases ht : P.drop (s + 1) = L.drop (s + 1)
      · rw [if_pos ht, if_pos (by rw [ht])]
      · rw [if_neg ht, if_neg (fun q => ht (List.cons.inj q).2)]
    · have hb : (P[s]'hp == L[s]'hl) = false := beq_eq_false_iff_ne.mpr he
      rw [hb, if_neg (fun q => he (List.cons.inj q).1)]
      simp only [Bool.not_false, if_true, Sem.run_pure, Result.andThen_ok]
theorem eq_bytes (d : Nat) (W : World) (P L : List Int) (hP : P.length = 512) (hL : L.length = 512) : (Op.equalIn (d + 2) 36 (.agg (bytes P)) (.agg (bytes L))).run Try.prog W = .ok (decide (P = L)) W := by
  obtain ⟨i0, hi, hz0, hz1, hz2⟩ := info_parts info5
  rw [Op.equalIn]
  simp only [Sem.run_bind, run_underlying Try.underlying36, Result.andThen_ok, sizeOf, typeInfo, run_program, hi, hz1, Sem.run_pure]
  simp only [Std.Legacy.Range.forIn_eq_forIn_range', Std.Legacy.Range.size, Nat.sub_zero, Nat.add_one_sub_one, Nat.div_one]
  rw [eq_from d W P L 512 hP hL 512 0 (by omega)]
  rw [List.drop_zero, List.drop_zero]
  by_cases h : P = L
  · rw [if_pos h, decide_eq_true h]
    rfl
  · rw [if_neg h, decide_eq_false h]
    rfl
end Go.Proofs.Ytibkaeaddpbnbaa.PAll
