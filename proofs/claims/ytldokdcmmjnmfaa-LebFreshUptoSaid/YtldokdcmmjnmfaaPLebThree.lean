/- What the printed functions for counted lists come to, leb's and the reference's. No condition. -/
import Derived.Test.YtldokdcmmjnmfaaPLebTwo
import Derived.Test.YtldokdcmmjnmfaaPAllx3
import Derived.Test.YtldokdcmmjnmfaaPAllx4
namespace Go.Proofs.Ytldokdcmmjnmfaa.Pure
open Go Go.RowKit Go.Proofs.Ytldokdcmmjnmfaa.PAll Go.Proofs.Ytldokdcmmjnmfaa.Crc Go.Proofs.Ytldokdcmmjnmfaa.Leb Go.Proofs.YtldokdcmmjnmfaaVW.PrintWords Go.Proofs.YtldokdcmmjnmfaaVW.PrintLast
/-- So many numbers from a place on. -/
def list (b : List Int) : Nat → Int → Except Int (List Int × Int)
  | 0, a => .ok ([], a)
  | n + 1, a => if (gets b a).2.2 = 0 then (match list b n (gets b a).2.1 with | .ok (l, z) => .ok ((gets b a).1 :: l, z) | .error e => .error e) else .error (gets b a).2.2
theorem getlist_l (b : List Int) (hb : Bytes b) (hl : b.length ≤ 17592186044415) (n : Int) (hn : n < 9223372036854775808) (d : Nat) : ∀ (k i r a : Nat) (acc : List Int), a + d = b.length → (i : Int) + (r : Int) = n → acc.length + d ≤ 17592186044415 → d + 14 < k →
    leb_GetList.l0 k b acc (a : Int) n (i : Int) = some (listed acc (list b r (a : Int))) := by
  induction d using Nat.strongRecOn with
  | _ d ih =>
    intro k i r a acc ha hi hacc hk
    obtain ⟨k, rfl⟩ : ∃ m, k = m + 1 := ⟨k - 1, by omega⟩
    simp only [leb_GetList.l0]
    match r with
    | 0 =>
      rw [if_neg (by omega), list]
      show some (acc, (a : Int), (0 : Int)) = some (acc ++ [], (a : Int), 0)
      rw [List.append_nil]
    | r + 1 =>
      rw [if_pos (by omega), get_f k b _ hb (by omega) (by omega), bnd, list]
      rcases gets_cases b (a : Int) hb with ⟨e, he, h⟩ | ⟨v, j, m, hm, h, hv, hen, hmn, h1, h10⟩
      · rw [h, if_neg he, if_neg he]; rfl
      · obtain rfl : a = m := by omega
        rw [h, if_pos rfl, if_pos rfl, if_pos (by omega), w64 (by omega) (by omega), show (i : Int) + 1 = ((i + 1 : Nat) : Int) by omega]
        simp only []
        rw [ih (d - j) (by omega) k (i + 1) r (a + j) (acc ++ [(v : Int)]) (by omega) (by omega) (by simp only [List.length_append, List.length_singleton]; omega) (by omega)]
        cases list b r ((a + j : Nat) : Int) with
        | error e => rfl
        | ok p => obtain ⟨l, z⟩ := p; simp [listed]
/-- The counted list at a place. -/
def lists (b : List Int) (a most : Int) : List Int × Int × Int :=
  if (cnt b a most).2.2 = 0 then listed [] (list b (cnt b a most).1.toNat (cnt b a most).2.1) else ([], 0, (cnt b a most).2.2)
theorem getlist_f (k : Nat) (b : List Int) (a most : Int) (hb : Bytes b) (hl : b.length ≤ 17592186044415) (hm : most < 9223372036854775808) (hk : b.length + 14 < k) : leb_GetList.f k b a most = some (lists b a most) := by
  unfold leb_GetList.f lists
  rw [count_f k b a most hb (by omega) (by omega), bnd]
  rcases cnt_cases b a most hb hm with ⟨e, he, h⟩ | ⟨v, n, m, rfl, hv, h, hen, hmn, h1, h10⟩
  · rw [h, if_neg he, if_neg he]
  · rw [h, if_pos rfl, if_pos rfl]
    simp only []
    rw [Int.toNat_natCast]
    exact getlist_l b hb hl v (by omega) (b.length - (m + n)) k 0 v (m + n) [] (by omega) (by omega) (by simp only [List.length_nil]; omega) (by omega)
theorem list_len (b : List Int) (hb : Bytes b) : ∀ (n : Nat) (a : Int) (l : List Int) (z : Int), list b n a = .ok (l, z) → a ≤ b.length → l.length ≤ b.length ∧ (l.length : Int) ≤ b.length - a ∨ l = []
  | 0, a, l, z, h, _ => by
    rw [list] at h
    cases h
    exact Or.inr rfl
  | n + 1, a, l, z, h, ha => by
    rw [list] at h
    rcases gets_cases b a hb with ⟨e, he, hg⟩ | ⟨v, j, m, rfl, hg, hv, hen, hmn, h1, h10⟩
    · rw [hg, if_neg he] at h; cases h
    · rw [hg, if_pos rfl] at h
      simp only [] at h
      cases hr : list b n ((m + j : Nat) : Int) with
      | error e => rw [hr] at h; cases h
      | ok p =>
        obtain ⟨l2, z2⟩ := p
        rw [hr] at h
        simp only [Except.ok.injEq, Prod.mk.injEq] at h
        obtain ⟨rfl, rfl⟩ := h
        rcases list_len b hb n _ l2 z2 hr (by omega) with ⟨q1, q2⟩ | rfl
        · left; simp only [List.length_cons]; omega
        · left; simp only [List.length_singleton]; omega
theorem lists_len (b : List Int) (a most : Int) (hb : Bytes b) (hm : most < 9223372036854775808) : (lists b a most).1.length ≤ b.length := by
  unfold lists
  rcases cnt_cases b a most hb hm with ⟨e, he, h⟩ | ⟨v, n, m, rfl, hv, h, hen, hmn, h1, h10⟩
  · rw [h, if_neg he]; exact Nat.zero_le _
  · rw [h, if_pos rfl]
    simp only []
    cases hr : list b (v : Int).toNat ((m + n : Nat) : Int) with
    | error e => exact Nat.zero_le _
    | ok p =>
      obtain ⟨l, z⟩ := p
      show ([] ++ l).length ≤ _
      rw [List.nil_append]
      rcases list_len b hb _ _ l z hr (by omega) with ⟨q1, q2⟩ | rfl
      · exact q1
      · exact Nat.zero_le _
theorem of_words (l : List Int) (h : ∀ x ∈ l, (Lit.int .u64 x).wf = true) : ∃ m, l = ints m ∧ ∀ n ∈ m, n < 18446744073709551616 := by
  induction l with
  | nil => exact ⟨[], rfl, by simp⟩
  | cons x l ih =>
    obtain ⟨m, rfl, hm⟩ := ih (fun y hy => h y (List.mem_cons_of_mem _ hy))
    have hx := u64_wf (h x List.mem_cons_self)
    obtain ⟨n, rfl⟩ := Int.eq_ofNat_of_zero_le hx.1
    refine ⟨n :: m, rfl, ?_⟩
    intro q hq
    rcases List.mem_cons.1 hq with rfl | hq
    · omega
    · exact hm q hq
theorem encs_len (l : List Nat) (h : ∀ n ∈ l, n < 18446744073709551616) : (encs l).length ≤ 10 * l.length := by
  induction l with
  | nil => exact Nat.zero_le _
  | cons n l ih =>
    have h1 := enc_ten (h n List.mem_cons_self)
    have h2 := ih (fun m hm => h m (List.mem_cons_of_mem _ hm))
    have e : encs (n :: l) = enc n ++ encs l := rfl
    rw [e, List.length_append, List.length_cons]; omega
theorem putlist_f (k : Nat) (l : List Nat) (hw : ∀ n ∈ l, n < 18446744073709551616) (hl : 10 * l.length ≤ 140737488355000) (hk : 11 * l.length + 20 < k) : leb_PutList.f k (ints l) = some (enc l.length ++ encs l) := by
  have h10 := enc_ten (n := l.length) (by omega)
  have he := encs_len l hw
  unfold leb_PutList.f
  rw [ints_len, wu64 (by omega) (by omega), put_one k l.length (by omega) (by omega), bnd, puts_f k l (by omega) hw (by omega) (by omega), bnd, if_pos (by omega)]
theorem refputlist_l (l : List Nat) (hw : ∀ n ∈ l, n < 18446744073709551616) (hl : l.length ≤ 140737488355328) (d : Nat) : ∀ (k i : Nat) (out : List Int), i + d = l.length → out.length + 10 * d ≤ 140737488355327 → d + 12 < k →
    stookref01_PutList.l0 k (ints l) out (i : Int) = some (out ++ encs (l.drop i)) := by
  induction d with
  | zero =>
    intro k i out hi _ hk
    obtain ⟨k, rfl⟩ : ∃ m, k = m + 1 := ⟨k - 1, by omega⟩
    simp only [stookref01_PutList.l0]
    rw [if_neg (by rw [ints_len]; omega), List.drop_eq_nil_of_le (by omega)]
    simp [encs]
  | succ d ih =>
    intro k i out hi ho hk
    obtain ⟨k, rfl⟩ : ∃ m, k = m + 1 := ⟨k - 1, by omega⟩
    simp only [stookref01_PutList.l0]
    have hn := hw (l[i]'(by omega)) (List.getElem_mem _)
    have h10 := enc_ten hn
    have e2 : encs (l.drop i) = enc (l[i]'(by omega)) ++ encs (l.drop (i + 1)) := by rw [List.drop_eq_getElem_cons (show i < l.length by omega)]; rfl
    rw [if_pos (by rw [ints_len]; omega), if_pos (by omega), rd_ints l i (by omega), refput_f k _ hn (by omega), bnd, if_pos (by omega), w64 (by omega) (by omega), show (i : Int) + 1 = ((i + 1 : Nat) : Int) by omega,
      ih k (i + 1) _ (by omega) (by rw [List.length_append]; omega) (by omega), e2, List.append_assoc]
theorem refputlist_f (k : Nat) (l : List Nat) (hw : ∀ n ∈ l, n < 18446744073709551616) (hl : 10 * l.length ≤ 140737488355000) (hk : 11 * l.length + 20 < k) : stookref01_PutList.f k (ints l) = some (enc l.length ++ encs l) := by
  have h10 := enc_ten (n := l.length) (by omega)
  unfold stookref01_PutList.f
  rw [ints_len, wu64 (by omega) (by omega), refput_f k l.length (by omega) (by omega), bnd]
  exact refputlist_l l hw (by omega) l.length k 0 _ (by omega) (by omega) (by omega)
theorem words_l (l m : List Int) (h : l.length = m.length) (hl : l.length ≤ 281474976710656) (d : Nat) : ∀ (k i : Nat), i + d = l.length → d < k →
    stookref00_Words.l0 k l m (i : Int) = some (decide (l.drop i = m.drop i)) := by
  induction d with
  | zero =>
    intro k i hi hk
    obtain ⟨k, rfl⟩ : ∃ m, k = m + 1 := ⟨k - 1, by omega⟩
    simp only [stookref00_Words.l0]
    rw [if_neg (by omega), List.drop_eq_nil_of_le (by omega), List.drop_eq_nil_of_le (by omega)]
    rfl
  | succ d ih =>
    intro k i hi hk
    obtain ⟨k, rfl⟩ : ∃ m, k = m + 1 := ⟨k - 1, by omega⟩
    simp only [stookref00_Words.l0]
    have e1 : rd l (i : Int) = l[i]'(by omega) := by unfold rd; rw [Int.toNat_natCast, List.getD_eq_getElem?_getD, List.getElem?_eq_getElem (by omega)]; rfl
    have e2 : rd m (i : Int) = m[i]'(by omega) := by unfold rd; rw [Int.toNat_natCast, List.getD_eq_getElem?_getD, List.getElem?_eq_getElem (by omega)]; rfl
    rw [if_pos (by omega), if_pos (by omega), if_pos (by omega), w64 (by omega) (by omega), show (i : Int) + 1 = ((i + 1 : Nat) : Int) by omega, ih k (i + 1) (by omega) (by omega), e1, e2,
      List.drop_eq_getElem_cons (show i < l.length by omega), List.drop_eq_getElem_cons (show i < m.length by omega)]
    by_cases hx : l[i]'(by omega) = m[i]'(by omega)
    · rw [if_pos hx, hx]
      refine congrArg some ?_
      rw [decide_eq_decide]
      exact ⟨fun q => by rw [q], fun q => (List.cons.inj q).2⟩
    · rw [if_neg hx]
      exact congrArg some (decide_eq_false (fun q => hx (List.cons.inj q).1)).symm
theorem words_f (k : Nat) (l m : List Int) (hl : l.length ≤ 281474976710656) (hk : l.length < k) : stookref00_Words.f k l m = some (decide (l = m)) := by
  unfold stookref00_Words.f
  by_cases h : l.length = m.length
  · rw [if_pos (by omega)]
    exact words_l l m h hl l.length k 0 (by omega) hk
  · rw [if_neg (by omega), decide_eq_false (fun e => h (by rw [e]))]
theorem words_self (k : Nat) (l : List Int) (hl : l.length ≤ 281474976710656) (hk : l.length < k) : stookref00_Words.f k l l = some true := by
  rw [words_f k l l hl hk, decide_eq_true rfl]
/-- A list that is laid is read. -/
theorem list_encs (l : List Nat) (hw : ∀ n ∈ l, n < 18446744073709551616) : ∀ (a c : List Int), list (a ++ encs l ++ c) l.length (a.length : Int) = .ok (ints l, ((a.length + (encs l).length : Nat) : Int)) := by
  induction l with
  | nil => intro a c; rw [List.length_nil, list]; simp [ints, encs]
  | cons n l ih =>
    intro a c
    have e : a ++ encs (n :: l) ++ c = a ++ enc n ++ (encs l ++ c) := by simp [encs]
    have e2 : a ++ enc n ++ (encs l ++ c) = (a ++ enc n) ++ encs l ++ c := by simp
    have h := ih (fun m hm => hw m (List.mem_cons_of_mem _ hm)) (a ++ enc n) c
    rw [List.length_append] at h
    rw [e, List.length_cons, list, gets_enc a n _ (hw n List.mem_cons_self), if_pos rfl]
    simp only []
    rw [e2, h]
    simp only [encs, List.flatMap_cons, List.length_append, ints, List.map_cons, Except.ok.injEq, Prod.mk.injEq]
    exact ⟨rfl, by omega⟩
theorem lists_enc (a c : List Int) (l : List Nat) (hw : ∀ n ∈ l, n < 18446744073709551616) (most : Int) (hr : (l.length : Int) ≤ most) (hm : most < 9223372036854775808) : lists (a ++ (enc l.length ++ encs l) ++ c) (a.length : Int) most = (ints l, ((a.length + (enc l.length ++ encs l).length : Nat) : Int), 0) := by
  have e : a ++ (enc l.length ++ encs l) ++ c = a ++ enc l.length ++ (encs l ++ c) := by simp
  have e2 : a ++ enc l.length ++ (encs l ++ c) = (a ++ enc l.length) ++ encs l ++ c := by simp
  have h := cnt_enc a l.length (encs l ++ c) most hr hm
  have h2 := list_encs l hw (a ++ enc l.length) c
  rw [List.length_append] at h2
  unfold lists
  rw [e, h, if_pos rfl]
  simp only []
  rw [Int.toNat_natCast, e2, h2]
  show ([] ++ ints l, ((a.length + (enc l.length).length + (encs l).length : Nat) : Int), (0 : Int)) = _
  rw [List.nil_append, List.length_append, Nat.add_assoc]
end Go.Proofs.Ytldokdcmmjnmfaa.Pure
