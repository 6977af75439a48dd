/- Where a row, or a list, is read, the bytes that it was read of are those that are put of it: what the printed statement of LebRowOne asks, where the length is small. Condition: the length is at most 1048576. -/
import Derived.Test.YtdcggaaaknafmaaPLebThree
import Derived.Test.YtdcggaaaknafmaaPLebWorks
import Derived.Test.YtdcggaaaknafmaaPAllx21
set_option linter.unusedVariables false
set_option linter.unusedSimpArgs false
namespace Go.Proofs.Ytdcggaaaknafmaa.Pure
open Go Go.RowKit Go.Proofs.Ytdcggaaaknafmaa.PAll Go.Proofs.Ytdcggaaaknafmaa.Crc Go.Proofs.Ytdcggaaaknafmaa.Leb Go.Proofs.YtdcggaaaknafmaaVW.PrintWords Go.Proofs.YtdcggaaaknafmaaVW.PrintLast
theorem piece (b : List Int) (m n v : Nat) : (b.take (m + n + v)).drop m = (b.drop m).take n ++ (b.drop (m + n)).take v := by
  rw [List.drop_take, show m + n + v - m = n + v by omega, List.take_add, List.drop_drop]
theorem rows_one (b : List Int) (a most : Int) (hb : Bytes b) (hm : most < 9223372036854775808) :
    (∃ e, e ≠ 0 ∧ rows b a most = ([], 0, e)) ∨ ∃ (m z : Nat) (row : List Int), a = (m : Int) ∧ m < z ∧ z ≤ b.length ∧ rows b a most = (row, (z : Int), 0) ∧ enc row.length ++ row = (b.take z).drop m ∧ row.length ≤ b.length := by
  unfold rows
  rcases cnt_cases b a most hb hm with ⟨e, he, h⟩ | ⟨v, n, m, rfl, hv, h, hen, hmn, h1, h10⟩
  · rw [h, if_neg he]
    exact Or.inl ⟨e, he, rfl⟩
  · rw [h, if_pos rfl]
    simp only []
    by_cases h2 : (v : Int) > (b.length : Int) - ((m + n : Nat) : Int)
    · rw [if_pos h2]
      exact Or.inl ⟨4, by decide, rfl⟩
    · rw [if_neg h2, Int.toNat_natCast, Int.toNat_natCast]
      have hl : ((b.drop (m + n)).take v).length = v := by rw [List.length_take, List.length_drop]; omega
      refine Or.inr ⟨m, m + n + v, (b.drop (m + n)).take v, rfl, by omega, by omega, ?_, ?_, by rw [hl]; omega⟩
      · refine congrArg (Prod.mk _) (congrArg (fun z => (z, (0 : Int))) ?_)
        omega
      · rw [hl, hen, piece]
theorem list_one (b : List Int) (hb : Bytes b) : ∀ (n m : Nat), m ≤ b.length → (∃ e, e ≠ 0 ∧ list b n (m : Int) = .error e) ∨
    ∃ (ns : List Nat) (z : Nat), list b n (m : Int) = .ok (ints ns, (z : Int)) ∧ ns.length = n ∧ (∀ x ∈ ns, x < 18446744073709551616) ∧ m ≤ z ∧ z ≤ b.length ∧ encs ns = (b.drop m).take (z - m) ∧ n ≤ z - m
  | 0, m, h => by
    refine Or.inr ⟨[], m, by rw [list]; rfl, rfl, fun x hx => by simp at hx, Nat.le_refl _, h, ?_, by omega⟩
    rw [Nat.sub_self, List.take_zero]; rfl
  | n + 1, m, h => by
    rw [list]
    rcases gets_cases b (m : Int) hb with ⟨e, he, hg⟩ | ⟨v, j, m', hm', hg, hv, hen, hmn, h1, h10⟩
    · rw [hg, if_neg he]
      exact Or.inl ⟨e, he, rfl⟩
    · have : m' = m := by omega
      subst this
      rw [hg, if_pos rfl]
      simp only []
      rcases list_one b hb n (m' + j) hmn with ⟨e, he, hr⟩ | ⟨ns, z, hr, hl, hw, hz, hzb, hE, hnz⟩
      · rw [hr]
        exact Or.inl ⟨e, he, rfl⟩
      · rw [hr]
        refine Or.inr ⟨v :: ns, z, rfl, by rw [List.length_cons, hl], fun x hx => ?_, by omega, hzb, ?_, by omega⟩
        · rcases List.mem_cons.1 hx with rfl | hx
          · exact hv
          · exact hw x hx
        · show enc v ++ encs ns = _
          rw [hen, hE, show z - m' = j + (z - (m' + j)) by omega, List.take_add, List.drop_drop]
theorem lists_one (b : List Int) (a most : Int) (hb : Bytes b) (hm : most < 9223372036854775808) :
    (∃ e, e ≠ 0 ∧ lists b a most = ([], 0, e)) ∨ ∃ (m z : Nat) (ns : List Nat), a = (m : Int) ∧ m < z ∧ z ≤ b.length ∧ lists b a most = (ints ns, (z : Int), 0) ∧ enc ns.length ++ encs ns = (b.take z).drop m ∧ ns.length ≤ b.length ∧ ∀ x ∈ ns, x < 18446744073709551616 := by
  unfold lists
  rcases cnt_cases b a most hb hm with ⟨e, he, h⟩ | ⟨v, n, m, rfl, hv, h, hen, hmn, h1, h10⟩
  · rw [h, if_neg he]
    exact Or.inl ⟨e, he, rfl⟩
  · rw [h, if_pos rfl]
    simp only []
    rw [Int.toNat_natCast]
    rcases list_one b hb v (m + n) hmn with ⟨e, he, hr⟩ | ⟨ns, z, hr, hl, hw, hz, hzb, hE, hnz⟩
    · rw [hr]
      exact Or.inl ⟨e, he, rfl⟩
    · rw [hr]
      refine Or.inr ⟨m, z, ns, rfl, by omega, hzb, by simp [listed], ?_, by omega, hw⟩
      have e1 : z = m + n + (z - (m + n)) := by omega
      rw [hl, hen, hE]
      conv => rhs; rw [e1]
      rw [piece]
theorem rowone_j (k : Nat) (b : List Int) (a most : Int) (hb : Bytes b) (hl : b.length ≤ 1048576) (hm : most < 9223372036854775808) (hk : 20000000 < k) (x7 : List Int) (x8 x9 : Int) (hx : x9 = 0 ∨ (x7 = [] ∧ x8 = 0)) :
    stooklaw01_LebRowOne.j0 (k + 1) b a most x7 x8 x9 false = some true := by
  simp only [stooklaw01_LebRowOne.j0]
  rw [if_neg (by decide), getlist_f k b a most hb (by omega) hm (by omega), bnd]
  rcases lists_one b a most hb hm with ⟨e, he, h⟩ | ⟨m, z, ns, rfl, hmz, hz, h, hE, hn, hw⟩
  · rw [h, if_neg he]
    by_cases h9 : x9 = 0
    · rw [if_pos h9, if_pos (by simp), if_pos rfl, lebworks_f k (by omega), bnd]
    · rcases hx with h | ⟨rfl, rfl⟩
      · exact absurd h h9
      · rw [if_neg h9, if_pos (by simp), if_pos rfl, if_pos (by simp), if_pos rfl, lebworks_f k (by omega), bnd]
  · rw [h, if_pos rfl]
    simp only []
    have hs : ((b.take z).drop m).length ≤ b.length := by rw [List.length_drop, List.length_take]; omega
    rw [if_neg (by omega), if_neg (by omega), if_neg (by omega), putlist_f k ns hw (by omega) (by omega), bnd, if_pos (by omega), if_pos (by omega), if_pos (by omega), Int.toNat_natCast, Int.toNat_natCast, hE, same_self k _ (by omega) (by omega), bnd, if_pos rfl]
    by_cases h9 : x9 = 0
    · rw [if_pos h9, lebworks_f k (by omega), bnd]
    · rcases hx with h | ⟨rfl, rfl⟩
      · exact absurd h h9
      · rw [if_neg h9, if_pos (by simp), if_pos rfl, lebworks_f k (by omega), bnd]
theorem LebRowOneU : ∀ (l0 : List Int) (a1 : Int) (a2 : Int), l0.length ≤ maxLen → l0.length * 1 ≤ 140737488351232 → (∀ x ∈ l0, (Lit.int .u8 x).wf = true) → (Lit.int .i64 a1).wf = true → (Lit.int .i64 a2).wf = true → l0.length ≤ 1048576 → ∃ k, stooklaw01_LebRowOne.f k l0 a1 a2 = some true := by
  intro b a most _ _ hbw _ hmw hl
  have hb := Bytes.of_wf hbw
  have hm := (i64_wf hmw).2
  refine ⟨20000001 + 1, ?_⟩
  obtain ⟨k, hk⟩ : ∃ k, k = 20000001 := ⟨_, rfl⟩
  rw [← hk]
  unfold stooklaw01_LebRowOne.f
  rw [getrow_f (k + 1) b a most hb (by omega) hm (by omega), bnd]
  rcases rows_one b a most hb hm with ⟨e, he, h⟩ | ⟨m, z, row, rfl, hmz, hz, h, hE, hn⟩
  · rw [h, if_neg he]
    exact rowone_j k b a most hb hl hm (by omega) _ _ _ (Or.inr ⟨rfl, rfl⟩)
  · rw [h, if_pos rfl]
    simp only []
    have hs : ((b.take z).drop m).length ≤ b.length := by rw [List.length_drop, List.length_take]; omega
    rw [if_neg (by omega), if_neg (by omega), if_neg (by omega), putrow_f (k + 1) row (by omega) (by omega), bnd, if_pos (by omega), if_pos (by omega), if_pos (by omega), Int.toNat_natCast, Int.toNat_natCast, hE, same_self (k + 1) _ (by omega) (by omega), bnd]
    exact rowone_j k b _ most hb hl hm (by omega) _ _ _ (Or.inl rfl)
end Go.Proofs.Ytdcggaaaknafmaa.Pure
