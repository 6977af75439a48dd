/- What page.Put and page.Get make of bytes is the document's; lives is true. -/
import Derived.Test.YtkecgmoaojklbaaPLeb
import Derived.Test.YtkecgmoaojklbaaPCrc
import Derived.Test.YtkecgmoaojklbaaFrame
import Derived.Test.YtkecgmoaojklbaaLives
import Derived.Test.YtkecgmoaojklbaaPAllx3
import Derived.Test.YtkecgmoaojklbaaPAllx9
import Derived.Test.YtkecgmoaojklbaaPAllx2
set_option linter.unusedVariables false
set_option linter.unusedSimpArgs false
namespace Go.Proofs.Ytkecgmoaojklbaa.Pure
open Go Go.RowKit Go.Proofs.Ytkecgmoaojklbaa.PAll Go.Proofs.Ytkecgmoaojklbaa.Crc Go.Proofs.Ytkecgmoaojklbaa.Leb Go.Proofs.YtkecgmoaojklbaaVW.PrintWords Go.Proofs.YtkecgmoaojklbaaVW.PrintLast
set_option maxRecDepth 100000
def mid (n kind : Int) (l : List Int) : List Int := [n % 256, n / 256 % 256, n / 65536 % 256, n / 16777216 % 256, kind, 0, (l.length : Int) % 256, (l.length : Int) / 256] ++ (l ++ List.replicate (500 - l.length) 0)
theorem mid_len (n kind : Int) (l : List Int) (h : l.length ≤ 496) : (mid n kind l).length = 508 := by
  unfold mid
  simp only [List.length_append, List.length_cons, List.length_nil, List.length_replicate]
  omega
theorem nb_at {n : Int} (h0 : 0 ≤ n) (h1 : n < 65536) : nb n 0 = n % 256 ∧ nb n 1 = n / 256 % 256 ∧ nb n 2 = n / 65536 % 256 ∧ nb n 3 = n / 16777216 % 256 := by
  refine ⟨?_, ?_, ?_, ?_⟩
  · show n % 4294967296 / 1 % 256 = _
    omega
  · show n % 4294967296 / 256 % 256 = _
    omega
  · show n % 4294967296 / 65536 % 256 = _
    omega
  · show n % 4294967296 / 16777216 % 256 = _
    omega
theorem headed_eq (n kind : Int) (l : List Int) : headed n kind l = [0, 0, 0, 0, nb n 0, nb n 1, nb n 2, nb n 3, kind, 0, (l.length : Int) % 256, (l.length : Int) / 256] ++ List.replicate 500 0 := by
  unfold headed
  rw [show List.replicate 512 (0 : Int) = [0, 0, 0, 0, 0, 0, 0, 0, 0, 0, 0, 0] ++ List.replicate 500 0 from rfl]
  generalize List.replicate 500 (0 : Int) = R
  rfl
theorem laidm_eq {n kind : Int} {l : List Int} (h0 : 0 ≤ n) (h1 : n < 65536) (hl : l.length ≤ 496) : laidm n kind l = [0, 0, 0, 0] ++ mid n kind l := by
  unfold laidm mid
  rw [headed_eq]
  obtain ⟨e0, e1, e2, e3⟩ := nb_at h0 h1
  rw [e0, e1, e2, e3]
  have hd : ([0, 0, 0, 0, n % 256, n / 256 % 256, n / 65536 % 256, n / 16777216 % 256, kind, 0, (l.length : Int) % 256, (l.length : Int) / 256] ++ List.replicate 500 (0 : Int)).drop (12 + l.length) = List.replicate (500 - l.length) 0 := by
    rw [← List.drop_drop, List.drop_left' (by rfl)]
    rw [List.drop_replicate]
  rw [hd, List.take_left' (by rfl)]
  rfl
theorem laidm_mid {n kind : Int} {l : List Int} (h0 : 0 ≤ n) (h1 : n < 65536) (hl : l.length ≤ 496) : (laidm n kind l).drop 4 = mid n kind l := by
  rw [laidm_eq h0 h1 hl]
  rfl
theorem laidp_eq {s n kind : Int} {l : List Int} (h0 : 0 ≤ n) (h1 : n < 65536) (hl : l.length ≤ 496) : laidp s n kind l = four s ++ mid n kind l := by
  unfold laidp
  rw [laidm_eq h0 h1 hl]
  generalize mid n kind l = m
  have e0 : sb s 0 = s % 256 := by
    show s / 1 % 256 = _
    omega
  show sb s 0 :: sb s 1 :: sb s 2 :: sb s 3 :: m = _
  rw [e0]
  rfl
theorem mid_bytes {n kind : Int} {l : List Int} (hk : 0 ≤ kind ∧ kind < 256) (hb : Bytes l) (hl : l.length ≤ 496) : Bytes (mid n kind l) := by
  unfold mid
  refine Bytes.append ?_ (hb.append ?_)
  · intro x hx
    simp only [List.mem_cons, List.not_mem_nil, or_false] at hx
    omega
  · intro x hx
    have := List.eq_of_mem_replicate hx
    omega
/-- A page, or the error. -/
def pput (n kind : Int) (l : List Int) : List Int × Int := if n < 0 ∨ n ≥ 65536 then ([], 2) else (if l.length > 496 then ([], 3) else (four (crcs (mid n kind l)) ++ mid n kind l, 0))
theorem pageput_f (k : Nat) (n kind : Int) (l : List Int) (hk : 1000 < k) (hkd : 0 ≤ kind ∧ kind < 256) (hb : Bytes l) : page_Put.f k n kind l = some (pput n kind l) := by
  unfold page_Put.f pput
  by_cases c1 : n < 0 ∨ n ≥ 65536
  · rw [if_pos c1, if_pos c1]
  · rw [if_neg c1, if_neg c1]
    by_cases c2 : l.length > 496
    · rw [if_pos c2, if_pos c2]
    · rw [if_neg c2, if_neg c2, laidm_mid (by omega) (by omega) (by omega), crc_f k _ (mid_bytes hkd hb (by omega)) (by rw [mid_len _ _ _ (by omega)]; omega) (by rw [mid_len _ _ _ (by omega)]; omega), bnd, laidp_eq (by omega) (by omega) (by omega)]
theorem pad_l (d : Nat) : ∀ (k : Nat) (x : List Int), Bytes x → x.length + d = 508 → d + 600 < k → stookref15_Put.l0 k x = some (four (crcs (x ++ List.replicate d 0)) ++ (x ++ List.replicate d 0), 0) := by
  induction d with
  | zero =>
    intro k x hx hl hk
    obtain ⟨k, rfl⟩ : ∃ q, k = q + 1 := ⟨k - 1, by omega⟩
    rw [stookref15_Put.l0, if_neg (by omega), List.replicate_zero, List.append_nil, refcrc_f k x hx (by omega) (by omega), bnd]
    show (if (four (crcs x)).length + x.length < 140737488355328 then (some ((four (crcs x) ++ x), 0)) else none) = _
    rw [if_pos (by rw [four_len]; omega)]
  | succ d ih =>
    intro k x hx hl hk
    obtain ⟨k, rfl⟩ : ∃ q, k = q + 1 := ⟨k - 1, by omega⟩
    rw [stookref15_Put.l0, if_pos (by omega), if_pos (by omega), ih k (x ++ [0]) (hx.append (fun y hy => by simp at hy; omega)) (by rw [List.length_append, List.length_singleton]; omega) (by omega)]
    rw [List.append_assoc, List.replicate_succ]
    rfl
theorem refpageput_f (k : Nat) (n kind : Int) (l : List Int) (hk : 1200 < k) (hkd : 0 ≤ kind ∧ kind < 256) (hb : Bytes l) : stookref15_Put.f k n kind l = some (pput n kind l) := by
  unfold stookref15_Put.f pput
  obtain ⟨k, rfl⟩ : ∃ q, k = q + 1 := ⟨k - 1, by omega⟩
  by_cases c1 : n < 0
  · rw [if_pos c1, if_pos (Or.inl c1), stookref15_Put.j0, if_pos rfl]
  · rw [if_neg c1, stookref15_Put.j0]
    by_cases c2 : n ≥ 65536
    · rw [decide_eq_true c2, if_pos rfl, if_pos (Or.inr c2)]
    · rw [decide_eq_false c2, if_neg (by simp), if_neg (show ¬ (n < 0 ∨ n ≥ 65536) by omega)]
      by_cases c3 : l.length > 496
      · rw [if_pos (by omega), if_pos c3]
      · rw [if_neg (by omega), if_neg c3, bnd, if_pos (by simp), bnd, if_pos (by simp; omega)]
        have hbh : Bytes ([n % 256, n / 256 % 256, n / 65536 % 256, n / 16777216 % 256, kind, 0, (l.length : Int) % 256, (l.length : Int) / 256 % 256] : List Int) := by
          intro x hx
          simp only [List.mem_cons, List.not_mem_nil, or_false] at hx
          omega
        rw [pad_l (500 - l.length) k _ ((Bytes.append (fun y hy => by simp at hy) hbh).append hb) (by simp only [List.length_append, List.length_cons, List.length_nil]; omega) (by omega)]
        have e : (([] : List Int) ++ [n % 256, n / 256 % 256, n / 65536 % 256, n / 16777216 % 256, kind, 0, (l.length : Int) % 256, (l.length : Int) / 256 % 256]) ++ l ++ List.replicate (500 - l.length) 0 = mid n kind l := by
          unfold mid
          rw [List.nil_append, List.append_assoc, show (l.length : Int) / 256 % 256 = (l.length : Int) / 256 by omega]
        rw [e]
theorem or_i64 (a b : Nat) (ha : a < 256) (hb : b < 256) : bits .or .i64 (a : Int) ((b * 256 : Nat) : Int) = ((a + b * 256 : Nat) : Int) := by
  show IntKind.i64.wrap (((BitVec.ofInt 64 (a : Int)) ||| (BitVec.ofInt 64 ((b * 256 : Nat) : Int))).toNat : Int) = _
  rw [BitVec.toNat_or, ofInt64 a (by omega), ofInt64 (b * 256) (by omega), Nat.or_comm, show b * 256 = 2 ^ 8 * b by omega, ← Nat.two_pow_add_eq_or_of_lt (i := 8) (by omega), IntKind.wrap_i64]
  omega
theorem told_eq {b : List Int} (hb : Bytes b) (hl : b.length = 512) : told b = rd b 10 + rd b 11 * 256 ∧ 0 ≤ rd b 10 ∧ rd b 10 < 256 ∧ 0 ≤ rd b 11 ∧ rd b 11 < 256 ∧ 0 ≤ rd b 8 ∧ rd b 8 < 256 := by
  obtain ⟨e10, x10, y10⟩ := bytes_rd hb 10 (by omega)
  obtain ⟨e11, x11, y11⟩ := bytes_rd hb 11 (by omega)
  obtain ⟨e8, x8, y8⟩ := bytes_rd hb 8 (by omega)
  have f10 : 0 ≤ rd b 10 ∧ rd b 10 < 256 := by rw [show rd b 10 = rd b ((10 : Nat) : Int) from rfl, e10]; exact ⟨x10, y10⟩
  have f11 : 0 ≤ rd b 11 ∧ rd b 11 < 256 := by rw [show rd b 11 = rd b ((11 : Nat) : Int) from rfl, e11]; exact ⟨x11, y11⟩
  have f8 : 0 ≤ rd b 8 ∧ rd b 8 < 256 := by rw [show rd b 8 = rd b ((8 : Nat) : Int) from rfl, e8]; exact ⟨x8, y8⟩
  refine ⟨?_, f10.1, f10.2, f11.1, f11.2, f8.1, f8.2⟩
  unfold told
  obtain ⟨p, hp⟩ := Int.eq_ofNat_of_zero_le f10.1
  obtain ⟨q, hq⟩ := Int.eq_ofNat_of_zero_le f11.1
  rw [hp] at f10 ⊢
  rw [hq] at f11 ⊢
  rw [w64 (i := (p : Int)) (by omega) (by omega), w64 (i := (q : Int)) (by omega) (by omega), w64 (i := (q : Int) * 256) (by omega) (by omega), show (q : Int) * 256 = ((q * 256 : Nat) : Int) by omega, or_i64 p q (by omega) (by omega)]
  omega
theorem four_take {b : List Int} (hl : b.length = 512) (t : Int) : sumok t b ↔ b.take 4 = four t := by
  match b, hl with
  | b0 :: b1 :: b2 :: b3 :: r, hl =>
    have e0 : sb t 0 = t % 256 := by
      show t / 1 % 256 = _
      omega
    constructor
    · rintro ⟨h0, h1, h2, h3⟩
      have g0 : b0 = sb t 0 := h0
      have g1 : b1 = sb t 1 := h1
      have g2 : b2 = sb t 2 := h2
      have g3 : b3 = sb t 3 := h3
      rw [g0, g1, g2, g3, e0]
      rfl
    · intro h
      have h2 : [b0, b1, b2, b3] = [t % 256, t / 256 % 256, t / 65536 % 256, t / 16777216 % 256] := h
      simp only [List.cons.injEq, and_true] at h2
      exact ⟨by rw [e0]; exact h2.1, h2.2.1, h2.2.2.1, h2.2.2.2⟩
/-- What is read of a page, or the error. -/
def pget (n : Int) (b : List Int) : Int × List Int × Int :=
  if n < 0 ∨ n ≥ 65536 then (0, [], 2) else if b.length < 512 then (0, [], 4) else if b.length > 512 then (0, [], 5) else
  if b.take 4 = four (crcs (b.drop 4)) then (if rd b 10 + rd b 11 * 256 > 496 then (0, [], 5) else (if (pput n (rd b 8) ((b.drop 12).take (rd b 10 + rd b 11 * 256).toNat)).1 = b then (rd b 8, (b.drop 12).take (rd b 10 + rd b 11 * 256).toNat, 0) else (0, [], 5))) else (0, [], 6)
theorem pageget_f (k : Nat) (n : Int) (b : List Int) (hk : 1000 < k) (hb : Bytes b) : page_Get.f k n b = some (pget n b) := by
  unfold page_Get.f pget
  by_cases c1 : n < 0 ∨ n ≥ 65536
  · rw [if_pos c1, if_pos c1]
  · rw [if_neg c1, if_neg c1]
    by_cases c2 : b.length < 512
    · rw [if_pos c2, if_pos c2]
    · rw [if_neg c2, if_neg c2]
      by_cases c3 : b.length > 512
      · rw [if_pos c3, if_pos c3]
      · rw [if_neg c3, if_neg c3]
        have hl : b.length = 512 := by omega
        obtain ⟨et, x10, y10, x11, y11, x8, y8⟩ := told_eq hb hl
        rw [crc_f k _ (hb.drop 4) (by rw [List.length_drop]; omega) (by rw [List.length_drop]; omega), bnd]
        by_cases c4 : b.take 4 = four (crcs (b.drop 4))
        · rw [if_pos ((four_take hl _).2 c4), if_pos c4, et]
          by_cases c5 : rd b 10 + rd b 11 * 256 > 496
          · rw [if_pos c5, if_pos c5]
          · rw [if_neg c5, if_neg c5, if_pos (by omega)]
            have ec : cut b = (b.drop 12).take (rd b 10 + rd b 11 * 256).toNat := by unfold cut; rw [et]
            rw [ec]
            obtain ⟨y, hy⟩ : ∃ y, y = (b.drop 12).take (rd b 10 + rd b 11 * 256).toNat := ⟨_, rfl⟩
            rw [← hy]
            have hyl : y.length ≤ 496 := by rw [hy, List.length_take]; omega
            have hyb : Bytes y := by rw [hy]; exact (hb.drop 12).take _
            rw [laidm_mid (by omega) (by omega) hyl, crc_f k _ (mid_bytes ⟨x8, y8⟩ hyb hyl) (by rw [mid_len _ _ _ hyl]; omega) (by rw [mid_len _ _ _ hyl]; omega), bnd, laidp_eq (by omega) (by omega) hyl]
            have ep : pput n (rd b 8) y = (four (crcs (mid n (rd b 8) y)) ++ mid n (rd b 8) y, 0) := by unfold pput; rw [if_neg c1, if_neg (by omega)]
            rw [ep]
            by_cases c6 : four (crcs (mid n (rd b 8) y)) ++ mid n (rd b 8) y = b
            · rw [if_pos c6, if_pos c6]
            · rw [if_neg c6, if_neg c6]
        · rw [if_neg (fun q => c4 ((four_take hl _).1 q)), if_neg c4]
theorem refpageget_f (k : Nat) (n : Int) (b : List Int) (hk : 2000 < k) (hb : Bytes b) : stookref15_Get.f k n b = some (pget n b) := by
  unfold stookref15_Get.f pget
  obtain ⟨k, rfl⟩ : ∃ q, k = q + 1 := ⟨k - 1, by omega⟩
  by_cases c1 : n < 0
  · rw [if_pos c1, if_pos (Or.inl c1), stookref15_Get.j0, if_pos rfl]
  · rw [if_neg c1, stookref15_Get.j0]
    by_cases c2 : n ≥ 65536
    · rw [decide_eq_true c2, if_pos rfl, if_pos (Or.inr c2)]
    · rw [decide_eq_false c2, if_neg (by simp), if_neg (show ¬ (n < 0 ∨ n ≥ 65536) by omega)]
      by_cases c3 : b.length < 512
      · rw [if_pos (by omega), if_pos c3]
      · rw [if_neg (by omega), if_neg c3]
        by_cases c4 : b.length > 512
        · rw [if_pos (by omega), if_pos c4]
        · rw [if_neg (by omega), if_neg c4, if_pos (by omega)]
          have hl : b.length = 512 := by omega
          obtain ⟨et, x10, y10, x11, y11, x8, y8⟩ := told_eq hb hl
          have e4 : ∀ t, stookref02_Four.f t = some (four t) := fun _ => rfl
          rw [refcrc_f k _ (hb.drop 4) (by rw [List.length_drop]; omega) (by rw [List.length_drop]; omega), bnd, e4, bnd, same_f k _ _ (by rw [List.length_take]; omega) (by rw [List.length_take]; omega), bnd]
          by_cases c5 : b.take 4 = four (crcs (b.drop 4))
          · rw [decide_eq_true c5, if_pos rfl, if_pos c5, if_pos (by omega), if_pos (by omega), w64 (i := rd b 10) (by omega) (by omega), w64 (i := rd b 11) (by omega) (by omega), w64 (i := 256 * rd b 11) (by omega) (by omega), show 256 * rd b 11 = rd b 11 * 256 by omega, w64 (i := rd b 10 + rd b 11 * 256) (by omega) (by omega)]
            by_cases c6 : rd b 10 + rd b 11 * 256 > 496
            · rw [if_pos c6, if_pos c6]
            · rw [if_neg c6, if_neg c6, w64 (i := 12 + (rd b 10 + rd b 11 * 256)) (by omega) (by omega), if_pos (by omega), if_pos (by omega)]
              have ey : (b.take (12 + (rd b 10 + rd b 11 * 256)).toNat).drop 12 = (b.drop 12).take (rd b 10 + rd b 11 * 256).toNat := by
                rw [List.drop_take, show (12 + (rd b 10 + rd b 11 * 256)).toNat - 12 = (rd b 10 + rd b 11 * 256).toNat by omega]
              rw [ey]
              obtain ⟨y, hy⟩ : ∃ y, y = (b.drop 12).take (rd b 10 + rd b 11 * 256).toNat := ⟨_, rfl⟩
              rw [← hy]
              have hyl : y.length ≤ 496 := by rw [hy, List.length_take]; omega
              have hyb : Bytes y := by rw [hy]; exact (hb.drop 12).take _
              have ec : stookref00_Copy.f y = some y := by unfold stookref00_Copy.f; rw [if_pos (by rw [List.length_nil]; omega), List.nil_append]
              rw [ec, bnd, if_pos (by omega), refpageput_f k n (rd b 8) y (by omega) ⟨x8, y8⟩ hyb, bnd]
              have ep : (pput n (rd b 8) y).1.length ≤ 512 := by
                unfold pput
                rw [if_neg (by omega), if_neg (by omega), List.length_append, four_len, mid_len _ _ _ hyl]
                decide
              rw [same_f k _ _ (by omega) (by omega), bnd]
              by_cases c7 : (pput n (rd b 8) y).1 = b
              · rw [decide_eq_true c7, if_pos rfl, if_pos c7]
              · rw [decide_eq_false c7, if_neg (by simp), if_neg c7]
          · rw [decide_eq_false c5, if_neg (by simp), if_neg c5]
theorem living (k : Nat) (hk : 2000 < k) : Living k := by
  have hb : Bytes ([97, 98] : List Int) := fun x hx => by simp at hx; omega
  have hm := mid_bytes (n := 5) (kind := 7) (l := [97, 98]) (by omega) hb (by decide)
  have hml := mid_len 5 7 [97, 98] (by decide)
  have hpp : pput 5 7 [97, 98] = (four (crcs (mid 5 7 [97, 98])) ++ mid 5 7 [97, 98], 0) := by unfold pput; rw [if_neg (by omega), if_neg (by decide)]
  have hmid : mid 5 7 [97, 98] = [5, 0, 0, 0, 7, 0, 2, 0, 97, 98] ++ List.replicate 498 0 := rfl
  obtain ⟨c, hc⟩ : ∃ c, c = crcs (mid 5 7 [97, 98]) := ⟨_, rfl⟩
  obtain ⟨pb, hpb⟩ : ∃ pb, pb = four c ++ mid 5 7 [97, 98] := ⟨_, rfl⟩
  have hlen : pb.length = 512 := by rw [hpb, List.length_append, four_len, hml]
  have hbb : Bytes pb := by rw [hpb]; exact (four_bytes _).append hm
  have hform : pb = [c % 256, c / 256 % 256, c / 65536 % 256, c / 16777216 % 256, 5, 0, 0, 0, 7, 0, 2, 0, 97, 98] ++ List.replicate 498 0 := by rw [hpb, hmid]; rfl
  have h4 : rd pb 4 = 5 := by rw [hform]; generalize List.replicate 498 (0 : Int) = R; rfl
  have h8 : rd pb 8 = 7 := by rw [hform]; generalize List.replicate 498 (0 : Int) = R; rfl
  have h10 : rd pb 10 = 2 := by rw [hform]; generalize List.replicate 498 (0 : Int) = R; rfl
  have h11 : rd pb 11 = 0 := by rw [hform]; generalize List.replicate 498 (0 : Int) = R; rfl
  have ht : pb.take 4 = four c := by rw [hpb]; exact List.take_left' (four_len c)
  have hd : pb.drop 4 = mid 5 7 [97, 98] := by rw [hpb]; exact List.drop_left' (four_len c)
  have hbody : (pb.drop 12).take 2 = [97, 98] := by rw [hform]; generalize List.replicate 498 (0 : Int) = R; rfl
  refine ⟨pb, ?_, ?_, hlen, h4, h8, h10, same_self k _ (by decide) (by simp; omega)⟩
  · rw [pageput_f k 5 7 [97, 98] (by omega) (by omega) hb, hpp, ← hc, ← hpb]
  · rw [pageget_f k 5 pb (by omega) hbb]
    unfold pget
    rw [if_neg (by omega), if_neg (by omega), if_neg (by omega), if_pos (by rw [ht, hd, ← hc]), h10, h11, h8, if_neg (by omega), show ((2 : Int) + 0 * 256).toNat = 2 from rfl, hbody, hpp, ← hc, ← hpb, if_pos rfl]
theorem pput_len (n kind : Int) (l : List Int) : (pput n kind l).1.length ≤ 512 := by
  unfold pput
  split
  · decide
  · split
    · decide
    · rw [List.length_append, four_len, mid_len _ _ _ (by omega)]
      decide
theorem pget_len (n : Int) (b : List Int) : (pget n b).2.1.length ≤ b.length := by
  unfold pget
  repeat' split
  all_goals first | exact Nat.zero_le _ | (rw [List.length_take, List.length_drop]; omega)
end Go.Proofs.Ytkecgmoaojklbaa.Pure
