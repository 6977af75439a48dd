/- A shard that is cut anywhere: the plain law. -/
import Derived.Test.YtjefgdggjchhbaaPShardThree
set_option linter.unusedVariables false
set_option linter.unusedSimpArgs false
namespace Go.Proofs.Ytjefgdggjchhbaa.Pure
open Go Go.RowKit Go.Proofs.Ytjefgdggjchhbaa.PAll Go.Proofs.Ytjefgdggjchhbaa.Crc Go.Proofs.Ytjefgdggjchhbaa.Leb Go.Proofs.YtjefgdggjchhbaaVW.PrintWords Go.Proofs.YtjefgdggjchhbaaVW.PrintLast
set_option maxRecDepth 100000
/-- A frame that is cut is none. -/
theorem cut_none (a t : List Int) (ha : Bytes a) (ht : Bytes t) (htl : t.length ≤ 65536) (c : Nat) (hc : c < (frm t).length) : (fget (a ++ (frm t).take c) (a.length : Int)).2.2 ≠ 0 := by
  intro h0
  have hb : Bytes (a ++ (frm t).take c) := ha.append ((frm_bytes ht).take c)
  have h1 := fget_more (a ++ (frm t).take c) ((frm t).drop c) (a.length : Int) hb h0
  rw [List.append_assoc, List.take_append_drop] at h1
  have h2 := fput_get t (frm t) a [] (fput_frm htl)
  rw [List.append_nil] at h2
  obtain ⟨p, n, hs, _, hn, _, _⟩ := fget_step (a ++ (frm t).take c) hb a.length h0
  rw [h2, hs] at h1
  simp only [Prod.mk.injEq] at h1
  have h3 := h1.2.1
  rw [List.length_append, List.length_take] at hn
  omega
theorem headb_bytes (m : Nat) : Bytes (headb m) := frm_bytes (byte_cons (by decide) (bytes_enc _))
/-- How many records stand whole in so many bytes. -/
def cutn : List (List Int) → Nat → Nat
  | [], _ => 0
  | r :: l, c => if (frm (114 :: r)).length ≤ c then cutn l (c - (frm (114 :: r)).length) + 1 else 0
theorem cutn_le : ∀ (l : List (List Int)) (c : Nat), cutn l c ≤ l.length
  | [], _ => Nat.le_refl _
  | r :: l, c => by
    unfold cutn
    by_cases h : (frm (114 :: r)).length ≤ c
    · rw [if_pos h, List.length_cons]
      exact Nat.succ_le_succ (cutn_le l _)
    · rw [if_neg h]
      exact Nat.zero_le _
theorem recs_take : ∀ (l : List (List Int)) (c : Nat), (∀ r ∈ l, r.length ≤ 65535) → (∀ r ∈ l, Bytes r) → ∃ (t : List Int) (cc : Nat), (recs l).take c = recs (l.take (cutn l c)) ++ (frm t).take cc ∧ cc < (frm t).length ∧ Bytes t ∧ t.length ≤ 65536
  | [], c, _, _ => ⟨[], 0, by simp [recs], by rw [frm_len]; omega, (fun x hx => by cases hx), by decide⟩
  | r :: l, c, hl, hb => by
    have hr := hl r List.mem_cons_self
    unfold cutn
    by_cases h : (frm (114 :: r)).length ≤ c
    · rw [if_pos h]
      obtain ⟨t, cc, e, h1, h2, h3⟩ := recs_take l (c - (frm (114 :: r)).length) (fun q hq => hl q (List.mem_cons_of_mem _ hq)) (fun q hq => hb q (List.mem_cons_of_mem _ hq))
      refine ⟨t, cc, ?_, h1, h2, h3⟩
      rw [recs, List.take_append, List.take_of_length_le h, e, List.take_succ_cons, recs, List.append_assoc]
    · rw [if_neg h]
      refine ⟨114 :: r, c, ?_, by omega, byte_cons (by decide) (hb r List.mem_cons_self), by rw [List.length_cons]; omega⟩
      rw [recs, List.take_append, show c - (frm (114 :: r)).length = 0 by omega, List.take_zero, List.append_nil, List.take_zero, recs, List.nil_append]
theorem sscan_cutn (m : Nat) (hm : m ≤ 2147483647) (l : List (List Int)) (hl : ∀ r ∈ l, r.length ≤ 65535) (hb : ∀ r ∈ l, Bytes r) (c : Nat) : ∃ en, sscan (headb m ++ (recs l).take c) = ((m : Int), starts (headb m).length (l.take (cutn l c)), false, en, 0) := by
  obtain ⟨t, cc, e, h1, h2, h3⟩ := recs_take l c hl hb
  obtain ⟨f, hf⟩ := sscan_recs m hm (l.take (cutn l c)) (fun r hr => hl r (List.mem_of_mem_take hr)) ((frm t).take cc)
  rw [e, hf, sl_succ, if_pos (Or.inl ?_)]
  · exact ⟨_, rfl⟩
  · have := cut_none (headb m ++ recs (l.take (cutn l c))) t ((headb_bytes m).append (recs_bytes _ (fun r hr => hb r (List.mem_of_mem_take hr)))) h2 h3 cc h1
    rwa [List.append_assoc, List.length_append] at this
theorem sscan_short (m : Nat) (hm : m ≤ 2147483647) (c : Nat) (hc : c < (headb m).length) : sscan ((headb m).take c) = (0, [], false, 0, 5) := by
  have he := enc_ten (n := m) (by omega)
  have h := cut_none [] (104 :: enc m) (fun x hx => by cases hx) (byte_cons (by decide) (bytes_enc _)) (by rw [List.length_cons]; omega) c hc
  rw [List.nil_append] at h
  have h2 : (fget ((headb m).take c) 0).2.2 ≠ 0 := h
  unfold sscan
  rw [if_pos (Or.inl h2)]
/-- Where the records end. -/
def ends : Nat → List (List Int) → List Int
  | _, [] => []
  | s, r :: l => ((s + (frm (114 :: r)).length : Nat) : Int) :: ends (s + (frm (114 :: r)).length) l
theorem ends_len : ∀ (l : List (List Int)) (s : Nat), (ends s l).length = l.length
  | [], _ => rfl
  | r :: l, s => by rw [ends, List.length_cons, ends_len l, List.length_cons]
theorem ends_snoc : ∀ (l : List (List Int)) (s : Nat) (r : List Int), ends s (l ++ [r]) = ends s l ++ [((s + (recs l).length + (frm (114 :: r)).length : Nat) : Int)]
  | [], s, r => rfl
  | q :: l, s, r => by
    rw [List.cons_append, ends, ends_snoc l, ends, recs, List.length_append, List.cons_append]
    congr 4
    omega
theorem recs_snoc : ∀ (l : List (List Int)) (r : List Int), recs (l ++ [r]) = recs l ++ frm (114 :: r)
  | [], r => by simp [recs]
  | q :: l, r => by rw [List.cons_append, recs, recs_snoc l, recs, List.append_assoc]
/-- How many of them, from the first on, are not above a number. -/
def cntn : List Int → Int → Nat
  | [], _ => 0
  | x :: l, n => if x ≤ n then cntn l n + 1 else 0
theorem cntn_le : ∀ (l : List Int) (n : Int), cntn l n ≤ l.length
  | [], _ => Nat.le_refl _
  | x :: l, n => by
    unfold cntn
    by_cases h : x ≤ n
    · rw [if_pos h, List.length_cons]
      exact Nat.succ_le_succ (cntn_le l n)
    · rw [if_neg h]
      exact Nat.zero_le _
theorem cntn_ends : ∀ (l : List (List Int)) (s c : Nat), cntn (ends s l) ((s + c : Nat) : Int) = cutn l c
  | [], _, _ => rfl
  | r :: l, s, c => by
    unfold cutn
    rw [ends, cntn]
    by_cases h : (frm (114 :: r)).length ≤ c
    · rw [if_pos h, if_pos (by omega), show s + c = (s + (frm (114 :: r)).length) + (c - (frm (114 :: r)).length) by omega, cntn_ends l]
    · rw [if_neg h, if_neg (by omega)]
theorem size_f (k : Nat) (hk : 20 < k) (r : List Int) (hr : r.length ≤ 300) : stookref03_Size.f k (wrap64 (1 + (r.length : Int))) = some ((frm (114 :: r)).length : Int) := by
  rw [w64 (by omega) (by omega), reffsize_f k _ (by omega)]
  unfold fsize
  rw [if_neg (by omega), frm_len, List.length_cons, show (1 + (r.length : Int)).toNat = r.length + 1 by omega]
  congr 1
  omega
end Go.Proofs.Ytjefgdggjchhbaa.Pure
