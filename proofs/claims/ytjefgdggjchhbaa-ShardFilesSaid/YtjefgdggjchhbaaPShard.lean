/- Shards: what Head, Body, Scan and Foot of both sides make of numbers and bytes. -/
import Derived.Test.YtjefgdggjchhbaaPFrame
import Derived.Test.YtjefgdggjchhbaaPAllx2
import Derived.Test.YtjefgdggjchhbaaPAllx4
import Derived.Test.YtjefgdggjchhbaaPAllx7
import Derived.Test.YtjefgdggjchhbaaPAllx6
import Derived.Test.YtjefgdggjchhbaaPAllx8
import Derived.Test.YtjefgdggjchhbaaPAllx9
import Derived.Test.YtjefgdggjchhbaaPAllx3
import Derived.Test.YtjefgdggjchhbaaPAllx11
import Derived.Test.YtjefgdggjchhbaaPAllx12
import Derived.Test.YtjefgdggjchhbaaPAllx13
set_option linter.unusedVariables false
set_option linter.unusedSimpArgs false
namespace Go.Proofs.Ytjefgdggjchhbaa.Pure
open Go Go.RowKit Go.Proofs.Ytjefgdggjchhbaa.PAll Go.Proofs.Ytjefgdggjchhbaa.Crc Go.Proofs.Ytjefgdggjchhbaa.Leb Go.Proofs.YtjefgdggjchhbaaVW.PrintWords Go.Proofs.YtjefgdggjchhbaaVW.PrintLast
set_option maxRecDepth 100000
def hput (n : Int) : List Int × Int := if n < 0 ∨ n > 2147483647 then ([], 2) else fput (104 :: enc n.toNat)
def bput (l : List Int) : List Int × Int := if l.length > 65535 then ([], 3) else fput (114 :: l)
/-- The payload of a foot. -/
def footp (m : Nat) (ahead : List Int) : List Int := 102 :: enc m ++ four (crcs ahead)
theorem byte_cons {x : Int} {l : List Int} (hx : 0 ≤ x ∧ x < 256) (h : Bytes l) : Bytes (x :: l) := by
  intro y hy
  rcases List.mem_cons.1 hy with rfl | hy
  · exact hx
  · exact h y hy
theorem head_f (k : Nat) (hk : 70000 < k) (n : Int) : shard_Head.f k n = some (hput n) := by
  obtain ⟨k, rfl⟩ : ∃ m, k = m + 1 := ⟨k - 1, by omega⟩
  have key : ∀ x : Bool, (x = true ↔ (n < 0 ∨ n > 2147483647)) → shard_Head.j0 (k + 1) n x = some (hput n) := by
    intro x hx
    simp only [shard_Head.j0]
    unfold hput
    by_cases c : x = true
    · rw [if_pos c, if_pos (hx.1 c)]
    · rw [if_neg c, if_neg (fun q => c (hx.2 q))]
      have hr : ¬ (n < 0 ∨ n > 2147483647) := fun q => c (hx.2 q)
      simp only [Option.bind_some]
      have he := enc_ten (n := n.toNat) (by omega)
      have hw : IntKind.u64.wrap n = ((n.toNat : Nat) : Int) := by rw [IntKind.wrap_u64]; omega
      rw [hw, put_f k n.toNat (by omega) (by omega)]
      simp only [Option.bind_some]
      rw [if_pos (by simp only [List.length_cons, List.length_nil]; omega), List.singleton_append, frameput_f k _ (byte_cons (by decide) (bytes_enc _)) (by omega)]
      rfl
  unfold shard_Head.f
  by_cases c : n < 0
  · rw [if_pos c]
    exact key true ⟨fun _ => Or.inl c, fun _ => rfl⟩
  · rw [if_neg c]
    exact key _ ⟨fun h => Or.inr (of_decide_eq_true h), fun h => decide_eq_true (by omega)⟩
theorem behind_f (x : Int) (l : List Int) (hl : l.length < 140737488355327) : stookref21_behind.f x l = some (x :: l) := by
  unfold stookref21_behind.f
  rw [if_pos (by decide)]
  simp only [Option.bind_some]
  rw [if_pos (by simp only [List.nil_append, List.length_cons, List.length_nil]; omega)]
  rfl
theorem refhead_f (k : Nat) (hk : 70000 < k) (n : Int) : stookref21_Head.f k n = some (hput n) := by
  obtain ⟨k, rfl⟩ : ∃ m, k = m + 1 := ⟨k - 1, by omega⟩
  have key : ∀ x : Bool, (x = true ↔ (n < 0 ∨ n > 2147483647)) → stookref21_Head.j0 (k + 1) n x = some (hput n) := by
    intro x hx
    simp only [stookref21_Head.j0]
    unfold hput
    by_cases c : x = true
    · rw [if_pos c, if_pos (hx.1 c)]
    · rw [if_neg c, if_neg (fun q => c (hx.2 q))]
      have hr : ¬ (n < 0 ∨ n > 2147483647) := fun q => c (hx.2 q)
      have he := enc_ten (n := n.toNat) (by omega)
      have hw : IntKind.u64.wrap n = ((n.toNat : Nat) : Int) := by rw [IntKind.wrap_u64]; omega
      rw [hw, refput_f k n.toNat (by omega) (by omega)]
      simp only [Option.bind_some]
      rw [behind_f _ _ (by omega)]
      simp only [Option.bind_some]
      rw [refframeput_f k _ (byte_cons (by decide) (bytes_enc _)) (by omega)]
      rfl
  unfold stookref21_Head.f
  by_cases c : n < 0
  · rw [if_pos c]
    exact key true ⟨fun _ => Or.inl c, fun _ => rfl⟩
  · rw [if_neg c]
    exact key _ ⟨fun h => Or.inr (of_decide_eq_true h), fun h => decide_eq_true (by omega)⟩
theorem body_f (k : Nat) (hk : 70000 < k) (l : List Int) (hb : Bytes l) : shard_Body.f k l = some (bput l) := by
  unfold shard_Body.f bput
  by_cases c : (l.length : Int) > 65535
  · rw [if_pos c, if_pos (by omega)]
  · rw [if_neg c, if_neg (by omega)]
    simp only [Option.bind_some]
    rw [if_pos (by simp only [List.length_cons, List.length_nil]; omega), List.singleton_append, frameput_f k _ (byte_cons (by decide) hb) (by omega)]
    rfl
theorem refbody_f (k : Nat) (hk : 70000 < k) (l : List Int) (hb : Bytes l) : stookref21_Body.f k l = some (bput l) := by
  unfold stookref21_Body.f bput
  by_cases c : (l.length : Int) > 65535
  · rw [if_pos c, if_pos (by omega)]
  · rw [if_neg c, if_neg (by omega), behind_f _ _ (by omega)]
    simp only [Option.bind_some]
    rw [refframeput_f k _ (byte_cons (by decide) hb) (by omega)]
    rfl
theorem foot_l (k : Nat) (hk : 5 < k) (p : List Int) (hp : p.length < 100000) (t : Int) (ht : 0 ≤ t ∧ t < 4294967296) : shard_foot.l0 k p t 0 = some (p ++ four t) := by
  obtain ⟨k, rfl⟩ : ∃ m, k = m + 5 := ⟨k - 5, by omega⟩
  have sh : ∀ j : Nat, j < 4 → shr .u32 t (wrap64 (8 * (j : Int))) % 256 = t / 2 ^ (8 * j) % 256 := by
    intro j hj
    have hw : wrap64 (8 * (j : Int)) = ((8 * j : Nat) : Int) := by unfold wrap64; omega
    rw [hw]
    unfold shr
    rw [Int.toNat_natCast, show min (8 * j) IntKind.u32.bits = 8 * j by show min (8 * j) 32 = 8 * j; omega]
  have st : ∀ (m : Nat) (q : List Int) (j : Nat), j < 4 → q.length < 200000 → shard_foot.l0 (m + 1) q t (j : Int) = shard_foot.l0 m (q ++ [t / 2 ^ (8 * j) % 256]) t ((j + 1 : Nat) : Int) := by
    intro m q j hj hq
    simp only [shard_foot.l0]
    rw [if_pos (by omega), if_pos (by unfold wrap64; omega), if_pos (by omega), sh j hj, show wrap64 ((j : Int) + 1) = ((j + 1 : Nat) : Int) by unfold wrap64; omega]
  have h0 := st (k + 4) p 0 (by decide) (by omega)
  have h1 := st (k + 3) (p ++ [t / 2 ^ (8 * 0) % 256]) 1 (by decide) (by simp only [List.length_append, List.length_cons, List.length_nil]; omega)
  have h2 := st (k + 2) (p ++ [t / 2 ^ (8 * 0) % 256] ++ [t / 2 ^ (8 * 1) % 256]) 2 (by decide) (by simp only [List.length_append, List.length_cons, List.length_nil]; omega)
  have h3 := st (k + 1) (p ++ [t / 2 ^ (8 * 0) % 256] ++ [t / 2 ^ (8 * 1) % 256] ++ [t / 2 ^ (8 * 2) % 256]) 3 (by decide) (by simp only [List.length_append, List.length_cons, List.length_nil]; omega)
  rw [show (0 : Int) = ((0 : Nat) : Int) from rfl, h0, h1, h2, h3]
  simp only [shard_foot.l0]
  rw [if_neg (by decide)]
  unfold four
  simp only [List.append_assoc, List.cons_append, List.nil_append]
  rw [show (2 : Int) ^ (8 * 0) = 1 by decide, show (2 : Int) ^ (8 * 1) = 256 by decide, show (2 : Int) ^ (8 * 2) = 65536 by decide, show (2 : Int) ^ (8 * 3) = 16777216 by decide, Int.ediv_one]
theorem foot_f (k : Nat) (m : Nat) (hm : m < 18446744073709551616) (l : List Int) (hb : Bytes l) (hl : l.length ≤ 140737488355328) (hk : l.length + 100 < k) : shard_foot.f k (m : Int) l = some (footp m l) := by
  unfold shard_foot.f footp
  have he := enc_ten hm
  have hw : IntKind.u64.wrap (m : Int) = (m : Int) := by rw [IntKind.wrap_u64]; omega
  simp only [Option.bind_some]
  rw [hw, put_f k m hm (by omega)]
  simp only [Option.bind_some]
  rw [if_pos (by simp only [List.length_cons, List.length_nil]; omega), crc_f k l hb hl (by omega)]
  simp only [Option.bind_some]
  rw [foot_l k (by omega) _ (by simp only [List.length_append, List.length_cons, List.length_nil]; omega) _ (crcs_range l)]
  rfl
theorem reffoot_f (k : Nat) (m : Nat) (hm : m < 18446744073709551616) (l : List Int) (hb : Bytes l) (hl : l.length ≤ 140737488355328) (hk : l.length + 100 < k) : stookref21_foot.f k (m : Int) l = some (footp m l) := by
  unfold stookref21_foot.f footp
  have he := enc_ten hm
  have hw : IntKind.u64.wrap (m : Int) = (m : Int) := by rw [IntKind.wrap_u64]; omega
  rw [hw, refput_f k m hm (by omega)]
  simp only [Option.bind_some]
  rw [behind_f _ _ (by omega)]
  simp only [Option.bind_some]
  rw [refcrc_f k l hb hl (by omega)]
  simp only [Option.bind_some]
  rw [reffour_f]
  simp only [Option.bind_some]
  rw [if_pos (by simp only [List.length_cons, four_len]; omega)]
theorem foot_bytes (m : Nat) (l : List Int) : Bytes (footp m l) := byte_cons (by decide) (Bytes.append (bytes_enc _) (four_bytes _))
theorem foot_len (m : Nat) (hm : m < 18446744073709551616) (l : List Int) : (footp m l).length ≤ 15 ∧ 1 ≤ (footp m l).length := by
  have he := enc_ten hm
  unfold footp
  simp only [List.length_cons, List.length_append, four_len, List.cons_append]
  omega
/-- The records of a shard from a place on. -/
def sl (b : List Int) : Nat → Int → List Int → Int → Int × List Int × Bool × Int × Int
  | 0, n, ps, a => (n, ps, false, a, 0)
  | f + 1, n, ps, a =>
    if (fget b a).2.2 ≠ 0 ∨ (fget b a).1 = [] then (n, ps, false, a, 0)
    else if rd (fget b a).1 0 = 114 then sl b f n (ps ++ [a]) (fget b a).2.1
    else if (fget b a).1 = footp ps.length (b.take a.toNat) then (n, ps, true, (fget b a).2.1, 0)
    else (n, ps, false, a, 0)
/-- What Scan tells. -/
def sscan (b : List Int) : Int × List Int × Bool × Int × Int :=
  if (fget b 0).2.2 ≠ 0 ∨ (fget b 0).1 = [] ∨ rd (fget b 0).1 0 ≠ 104 then (0, [], false, 0, 5)
  else if (gets (fget b 0).1 1).2.2 ≠ 0 ∨ (gets (fget b 0).1 1).2.1 ≠ ((fget b 0).1.length : Int) ∨ (gets (fget b 0).1 1).1 > 2147483647 then (0, [], false, 0, 5)
  else sl b (b.length + 1) (gets (fget b 0).1 1).1 [] (fget b 0).2.1
theorem fget_bytes (b : List Int) (a : Int) (hb : Bytes b) : Bytes (fget b a).1 := by
  rcases fget_cases b a hb with ⟨e, _, h⟩ | ⟨p, m, n, _, h, hp, hpl, _⟩
  · rw [h]
    intro x hx
    cases hx
  · rw [h]
    unfold fput at hp
    rw [if_neg (by omega)] at hp
    simp only [Prod.mk.injEq, and_true] at hp
    have hq : Bytes (enc p.length ++ p ++ four (crcs (enc p.length ++ p))) := by rw [hp]; exact Bytes.take (Bytes.drop hb _) _
    intro x hx
    exact hq x (List.mem_append_left _ (List.mem_append_right _ hx))
theorem str_nums {l m : List Int} (hl : Bytes l) (hm : Bytes m) : (strOfNums l).toList = (strOfNums m).toList ↔ l = m := by
  constructor
  · intro h
    have h2 : (strOfNums l).data.toList = (strOfNums m).data.toList := by rw [← ByteArray.toList_eq, ← ByteArray.toList_eq, h]
    rw [strOfNums_data, strOfNums_data] at h2
    have inj : ∀ (l m : List Int), Bytes l → Bytes m → l.map (fun n => UInt8.ofNat n.toNat) = m.map (fun n => UInt8.ofNat n.toNat) → l = m := by
      intro l
      induction l with
      | nil =>
        intro m _ _ h
        cases m with
        | nil => rfl
        | cons => cases h
      | cons x l ih =>
        intro m hl hm h
        cases m with
        | nil => cases h
        | cons y m =>
          simp only [List.map_cons, List.cons.injEq] at h
          have hx := Bytes.head hl
          have hy := Bytes.head hm
          have e : x = y := by
            have := congrArg UInt8.toNat h.1
            simp only [UInt8.toNat_ofNat'] at this
            omega
          rw [e, ih m (Bytes.tail hl) (Bytes.tail hm) h.2]
    exact inj l m hl hm h2
  · intro h
    rw [h]
theorem sl_succ (b : List Int) (f : Nat) (n : Int) (ps : List Int) (a : Int) : sl b (f + 1) n ps a = if (fget b a).2.2 ≠ 0 ∨ (fget b a).1 = [] then (n, ps, false, a, 0) else if rd (fget b a).1 0 = 114 then sl b f n (ps ++ [a]) (fget b a).2.1 else if (fget b a).1 = footp ps.length (b.take a.toNat) then (n, ps, true, (fget b a).2.1, 0) else (n, ps, false, a, 0) := rfl
theorem foot_first (m : Nat) (l : List Int) : rd (footp m l) 0 = 102 := rfl
theorem scan_l (b : List Int) (hb : Bytes b) (hl : b.length ≤ 5864062014804) (n : Int) (d : Nat) : ∀ (k f a : Nat) (ps : List Int), a + d = b.length → ps.length ≤ a → d < f → 2 * d + b.length + 80000 < k →
    shard_Scan.l0 k b (a : Int) n ps false (a : Int) = some (sl b f n ps (a : Int)) := by
  induction d using Nat.strongRecOn with
  | ind d ih =>
    intro k f a ps ha hps hf hk
    obtain ⟨k, rfl⟩ : ∃ m, k = m + 2 := ⟨k - 2, by omega⟩
    obtain ⟨f, rfl⟩ : ∃ m, f = m + 1 := ⟨f - 1, by omega⟩
    rw [sl_succ, show k + 2 = (k + 1) + 1 from rfl]
    simp only [shard_Scan.l0]
    rw [frameget_f (k + 1) b a hb (by omega) (by omega)]
    simp only [Option.bind_some]
    by_cases c0 : (fget b (a : Int)).2.2 = 0
    · rw [if_pos c0]
      obtain ⟨p, m, hg, hm, hle, hpl, _⟩ := fget_step b hb a c0
      have hbp := fget_bytes b (a : Int) hb
      rw [hg] at hbp ⊢
      simp only [shard_Scan.j3]
      by_cases c1 : p = []
      · rw [if_pos (by rw [c1]; rfl), if_pos (Or.inr c1)]
      · have hp : 0 < p.length := List.length_pos_iff.mpr c1
        rw [if_neg (by simp only [beq_iff_eq]; omega), if_pos (by omega), if_neg (show ¬ ((0 : Int) ≠ 0 ∨ p = []) by rintro (h | h); exact h rfl; exact c1 h)]
        by_cases c2 : rd p 0 = 114
        · rw [if_pos c2, if_pos (by omega), if_pos c2]
          exact ih (d - m) (by omega) k f (a + m) (ps ++ [(a : Int)]) (by omega) (by rw [List.length_append, List.length_cons, List.length_nil]; omega) (by omega) (by omega)
        · rw [if_neg c2, if_neg c2]
          have hft := foot_len ps.length (by omega) (b.take a)
          by_cases c3 : rd p 0 = 102
          · rw [if_pos c3, if_pos (by omega), if_pos (by omega), Int.toNat_natCast, foot_f k ps.length (by omega) (b.take a) (Bytes.take hb _) (by rw [List.length_take]; omega) (by rw [List.length_take]; omega)]
            simp only [Option.bind_some]
            by_cases c4 : p = footp ps.length (b.take a)
            · rw [if_pos ((str_nums hbp (foot_bytes _ _)).2 c4), if_pos c4]
            · rw [if_neg (fun h => c4 ((str_nums hbp (foot_bytes _ _)).1 h)), if_neg c4]
          · rw [if_neg c3, if_neg]
            intro h
            apply c3
            rw [h]
            exact foot_first _ _
    · rw [if_neg c0, if_pos (Or.inl c0)]
      simp only [shard_Scan.j3]
      rw [if_pos trivial]
theorem refscan_l (b : List Int) (hb : Bytes b) (hl : b.length ≤ 5864062014804) (n : Int) (d : Nat) : ∀ (k f a : Nat) (ps : List Int), a + d = b.length → ps.length ≤ a → d < f → 3 * d + b.length + 80000 < k →
    stookref21_Scan.l0 k b n ps false (a : Int) = some (sl b f n ps (a : Int)) := by
  induction d using Nat.strongRecOn with
  | ind d ih =>
    intro k f a ps ha hps hf hk
    obtain ⟨k, rfl⟩ : ∃ m, k = m + 3 := ⟨k - 3, by omega⟩
    obtain ⟨f, rfl⟩ : ∃ m, f = m + 1 := ⟨f - 1, by omega⟩
    rw [sl_succ, show k + 3 = (k + 2) + 1 from rfl]
    simp only [stookref21_Scan.l0]
    rw [refframeget_f (k + 2) b a hb (by omega) (by omega)]
    simp only [Option.bind_some]
    by_cases c0 : (fget b (a : Int)).2.2 = 0
    · rw [if_pos c0]
      obtain ⟨p, m, hg, hm, hle, hpl, _⟩ := fget_step b hb a c0
      have hbp := fget_bytes b (a : Int) hb
      rw [hg] at hbp ⊢
      rw [show k + 2 = (k + 1) + 1 from rfl]
      simp only [stookref21_Scan.j3]
      by_cases c1 : p = []
      · rw [if_pos (by rw [c1]; rfl), if_pos (Or.inr c1)]
      · have hp : 0 < p.length := List.length_pos_iff.mpr c1
        rw [if_neg (by simp only [beq_iff_eq]; omega), if_pos (by omega), if_neg (show ¬ ((0 : Int) ≠ 0 ∨ p = []) by rintro (h | h); exact h rfl; exact c1 h)]
        have hft := foot_len ps.length (by omega) (b.take a)
        by_cases c3 : rd p 0 = 102
        · rw [if_pos c3, if_pos (by omega), if_pos (by omega), Int.toNat_natCast, reffoot_f (k + 1) ps.length (by omega) (b.take a) (Bytes.take hb _) (by rw [List.length_take]; omega) (by rw [List.length_take]; omega)]
          simp only [Option.bind_some]
          rw [if_neg (show ¬ (rd p 0 = 114) by omega), same_f (k + 1) p (footp ps.length (b.take a)) (by omega) (by omega)]
          simp only [Option.bind_some, stookref21_Scan.j4]
          by_cases c4 : p = footp ps.length (b.take a)
          · rw [if_pos (decide_eq_true c4), if_pos c4]
          · rw [if_neg (by rw [decide_eq_false c4]; decide), if_neg c4, if_pos (by omega), if_neg (show ¬ (rd p 0 = 114) by omega)]
        · rw [if_neg c3]
          simp only [stookref21_Scan.j4]
          rw [if_neg (show ¬ (false = true) by decide), if_pos (by omega)]
          by_cases c2 : rd p 0 = 114
          · rw [if_pos c2, if_pos (by omega), if_pos c2]
            exact ih (d - m) (by omega) k f (a + m) (ps ++ [(a : Int)]) (by omega) (by rw [List.length_append, List.length_cons, List.length_nil]; omega) (by omega) (by omega)
          · rw [if_neg c2, if_neg c2, if_neg]
            intro h
            apply c3
            rw [h]
            exact foot_first _ _
    · rw [if_neg c0, if_pos (Or.inl c0), show k + 2 = (k + 1) + 1 from rfl]
      simp only [stookref21_Scan.j3]
      rw [if_pos trivial]
theorem scan_head (b : List Int) (hb : Bytes b) (c0 : (fget b 0).2.2 = 0) : ∃ m : Nat, (fget b 0).2.1 = (m : Int) ∧ m ≤ b.length ∧ (fget b 0).1.length ≤ 65536 ∧ Bytes (fget b 0).1 := by
  obtain ⟨p, m, hg, hm, hle, hpl, _⟩ := fget_step b hb 0 c0
  have hbp := fget_bytes b ((0 : Nat) : Int) hb
  refine ⟨m, ?_, by omega, ?_, hbp⟩
  · show (fget b ((0 : Nat) : Int)).2.1 = _
    rw [hg]
    show ((0 + m : Nat) : Int) = _
    omega
  · show (fget b ((0 : Nat) : Int)).1.length ≤ _
    rw [hg]
    exact hpl
theorem scan_f (k : Nat) (b : List Int) (hb : Bytes b) (hl : b.length ≤ 5864062014804) (hk : 4 * b.length + 90000 < k) : shard_Scan.f k b = some (sscan b) := by
  obtain ⟨k, rfl⟩ : ∃ m, k = m + 2 := ⟨k - 2, by omega⟩
  have key : ∀ x : Bool, (x = true ↔ ((fget b 0).2.2 ≠ 0 ∨ (fget b 0).1 = [] ∨ rd (fget b 0).1 0 ≠ 104)) → shard_Scan.j0 (k + 2) b (fget b 0).1 (fget b 0).2.1 x = some (sscan b) := by
    intro x hx
    rw [show k + 2 = (k + 1) + 1 from rfl]
    simp only [shard_Scan.j0]
    unfold sscan
    by_cases c : x = true
    · rw [if_pos c, if_pos (hx.1 c)]
    · rw [if_neg c, if_neg (fun h => c (hx.2 h))]
      have hnot : ¬ ((fget b 0).2.2 ≠ 0 ∨ (fget b 0).1 = [] ∨ rd (fget b 0).1 0 ≠ 104) := fun h => c (hx.2 h)
      obtain ⟨m, hm, hmb, hpl, hbp⟩ := scan_head b hb (by omega)
      have hgc := gets_cases (fget b 0).1 1 hbp
      have hgr : 0 ≤ (gets (fget b 0).1 1).1 ∧ (gets (fget b 0).1 1).1 < 18446744073709551616 := by
        rcases hgc with ⟨e, _, h⟩ | ⟨v, n, q, _, h, hv, _⟩
        · rw [h]; exact ⟨Int.le_refl 0, show (0 : Int) < 18446744073709551616 by decide⟩
        · rw [h]; exact ⟨by show (0 : Int) ≤ (v : Int); omega, by show (v : Int) < 18446744073709551616; omega⟩
      have j1 : ∀ y : Bool, (y = true ↔ ((gets (fget b 0).1 1).2.2 ≠ 0 ∨ (gets (fget b 0).1 1).2.1 ≠ ((fget b 0).1.length : Int) ∨ (gets (fget b 0).1 1).1 > 2147483647)) → ∀ z, z = (gets (fget b 0).1 1).1 ∨ y = true → shard_Scan.j1 (k + 1) b (fget b 0).2.1 z y = some (if (gets (fget b 0).1 1).2.2 ≠ 0 ∨ (gets (fget b 0).1 1).2.1 ≠ ((fget b 0).1.length : Int) ∨ (gets (fget b 0).1 1).1 > 2147483647 then (0, [], false, 0, 5) else sl b (b.length + 1) (gets (fget b 0).1 1).1 [] (fget b 0).2.1) := by
        intro y hy z hz
        simp only [shard_Scan.j1]
        by_cases c1 : y = true
        · rw [if_pos c1, if_pos (hy.1 c1)]
        · rw [if_neg c1, if_neg (fun h => c1 (hy.2 h))]
          have hny : ¬ ((gets (fget b 0).1 1).2.2 ≠ 0 ∨ (gets (fget b 0).1 1).2.1 ≠ ((fget b 0).1.length : Int) ∨ (gets (fget b 0).1 1).1 > 2147483647) := fun h => c1 (hy.2 h)
          have hz' : z = (gets (fget b 0).1 1).1 := hz.resolve_right c1
          have hw : wrap64 z = (gets (fget b 0).1 1).1 := by rw [hz']; unfold wrap64; omega
          rw [hw, hm]
          exact scan_l b hb hl _ (b.length - m) k (b.length + 1) m [] (by omega) (Nat.zero_le _) (by omega) (by omega)
      unfold shard_number.f
      rw [get_f (k + 1) (fget b 0).1 1 hbp (by omega) (by omega)]
      simp only [Option.bind_some]
      by_cases c2 : (gets (fget b 0).1 1).2.2 = 0
      · rw [if_pos c2]
        rcases hgc with ⟨e, he, h⟩ | ⟨v, n, q, hq, h, hv, _, hqn, _, _⟩
        · rw [h] at c2
          exact absurd c2 he
        · have h21 : (gets (fget b 0).1 1).2.1 = ((q + n : Nat) : Int) := by rw [h]
          rw [if_pos (by omega), if_pos (by omega)]
          simp only [Option.bind_some]
          rw [if_pos trivial]
          have hdl : ((fget b 0).1.drop ((gets (fget b 0).1 1).2.1).toNat).length = (fget b 0).1.length - (q + n) := by rw [List.length_drop, h21, Int.toNat_natCast]
          by_cases c3 : (((fget b 0).1.drop ((gets (fget b 0).1 1).2.1).toNat).length : Int) > 0
          · rw [if_pos c3]
            exact j1 true ⟨fun _ => Or.inr (Or.inl (by omega)), fun _ => rfl⟩ _ (Or.inl rfl)
          · rw [if_neg c3]
            refine j1 _ ⟨fun h => Or.inr (Or.inr (of_decide_eq_true h)), fun h => decide_eq_true (by omega)⟩ _ (Or.inl rfl)
      · rw [if_neg c2]
        simp only [Option.bind_some]
        rw [if_neg (by decide)]
        exact j1 true ⟨fun _ => Or.inl c2, fun _ => rfl⟩ _ (Or.inr rfl)
  unfold shard_Scan.f
  rw [frameget_f (k + 2) b 0 hb (by omega) (by omega)]
  simp only [Option.bind_some]
  by_cases c0 : (fget b 0).2.2 = 0
  · rw [if_pos c0]
    by_cases c1 : ((fget b 0).1.length : Int) = 0
    · rw [if_pos c1]
      exact key true ⟨fun _ => Or.inr (Or.inl (List.eq_nil_of_length_eq_zero (by omega))), fun _ => rfl⟩
    · rw [if_neg c1, if_pos (by omega)]
      refine key _ ⟨fun h => Or.inr (Or.inr (bne_iff_ne.mp h)), fun h => bne_iff_ne.mpr ?_⟩
      rcases h with h | h | h
      · exact absurd c0 h
      · rw [h] at c1; exact absurd rfl c1
      · exact h
  · rw [if_neg c0]
    exact key true ⟨fun _ => Or.inl c0, fun _ => rfl⟩
end Go.Proofs.Ytjefgdggjchhbaa.Pure
