/- RootBack: a root and the next one, of which one is spoilt. -/
import Derived.Test.YtkecgmoaojklbaaPRootTwo
set_option linter.unusedVariables false
set_option linter.unusedSimpArgs false
namespace Go.Proofs.Ytkecgmoaojklbaa.Pure
open Go Go.RowKit Go.Proofs.Ytkecgmoaojklbaa.PAll Go.Proofs.Ytkecgmoaojklbaa.Crc Go.Proofs.Ytkecgmoaojklbaa.Leb Go.Proofs.YtkecgmoaojklbaaVW.PrintWords Go.Proofs.YtkecgmoaojklbaaVW.PrintLast
set_option maxRecDepth 100000
/-- One byte of a row, changed. -/
def flip (b : List Int) (i : Nat) (v : Int) : List Int := b.set i (bits .xor .u8 (rd b (i : Int)) v)
theorem flip_len (b : List Int) (i : Nat) (v : Int) : (flip b i v).length = b.length := List.length_set
theorem flip_nat8 (B : List (BitVec 8)) (i : Nat) (hi : i < B.length) (x : BitVec 8) : flip (nat8 B) i (x.toNat : Int) = nat8 (B.set i (B[i] ^^^ x)) := by
  unfold flip
  rw [rd_nat8 _ _ hi, xor8, nat8_set]
theorem ofInt_nat {v : Int} (hv : 0 ≤ v ∧ v < 256) : ((BitVec.ofInt 8 v).toNat : Int) = v := by
  rw [BitVec.toNat_ofInt]
  omega
theorem flip_twice {b : List Int} (hb : Bytes b) {i : Nat} (hi : i < b.length) {v : Int} (hv : 0 ≤ v ∧ v < 256) : flip (flip b i v) i v = b := by
  have h : nat8 (b.map (BitVec.ofInt 8)) = b := bytes_nat8 hb
  generalize b.map (BitVec.ofInt 8) = B at h
  subst h
  rw [nat8_len] at hi
  rw [← ofInt_nat hv, flip_nat8 B i hi, flip_nat8 _ i (by rw [List.length_set]; exact hi)]
  congr 1
  rw [List.getElem_set_self, List.set_set, BitVec.xor_assoc, BitVec.xor_self, BitVec.xor_zero, List.set_getElem_self]
theorem bytes_flip {b : List Int} (hb : Bytes b) {i : Nat} (hi : i < b.length) {v : Int} (hv : 0 ≤ v ∧ v < 256) : Bytes (flip b i v) := by
  have h : nat8 (b.map (BitVec.ofInt 8)) = b := bytes_nat8 hb
  generalize b.map (BitVec.ofInt 8) = B at h
  subst h
  rw [nat8_len] at hi
  rw [← ofInt_nat hv, flip_nat8 B i hi]
  exact nat8_bytes _
theorem pget_flip {n kind : Int} {l : List Int} (h0 : 0 ≤ n) (h1 : n < 65536) (hk : 0 ≤ kind ∧ kind < 256) (hb : Bytes l) (hl : l.length ≤ 496) {i : Nat} (hi : i < 512) {v : Int} (hv : 0 < v ∧ v < 256) : (pget n (flip (pput n kind l).1 i v)).2.2 ≠ 0 := by
  have hpb : Bytes (pput n kind l).1 := bytes_pput hk hb
  obtain ⟨B, hB⟩ : ∃ B, (pput n kind l).1 = nat8 B := ⟨_, (bytes_nat8 hpb).symm⟩
  have hpp : (pput n kind l).1 = four (crcs (mid n kind l)) ++ mid n kind l := by unfold pput; rw [if_neg (by omega), if_neg (by omega)]
  have hlen : B.length = 512 := by
    have := congrArg List.length hB
    rw [nat8_len, hpp, List.length_append, four_len, mid_len _ _ _ hl] at this
    omega
  obtain ⟨a, ha⟩ : ∃ a, a = min i 508 := ⟨_, rfl⟩
  have hbu := page_burst h0 h1 hk hb hl B hB a (by omega) (fun j => if a + j = i then BitVec.ofInt 8 v else BitVec.ofNat 8 0)
  have hch : chg B a (fun j => if a + j = i then BitVec.ofInt 8 v else BitVec.ofNat 8 0) 4 = B.set i (B[i]'(by omega) ^^^ BitVec.ofInt 8 v) := by
    apply List.ext_getElem?
    intro j
    rw [chg_get, List.getElem?_set]
    by_cases hj : i = j
    · subst hj
      rw [if_pos rfl, if_pos (by omega), List.getElem?_eq_getElem (by omega), Option.map_some, if_pos (by omega), if_pos (by omega)]
    · rw [if_neg hj]
      by_cases hjl : j < B.length
      · rw [List.getElem?_eq_getElem hjl, Option.map_some]
        by_cases hc : a ≤ j ∧ j < a + 4
        · rw [if_pos hc, if_neg (by omega)]
          simp
        · rw [if_neg hc]
      · rw [List.getElem?_eq_none (by omega)]
        rfl
  rw [hB, ← ofInt_nat (v := v) (by omega), flip_nat8 B i (by omega), ← hch]
  intro h
  have := hbu.1 h (i - a) (by omega)
  rw [if_pos (by omega)] at this
  have h2 := congrArg BitVec.toNat this
  rw [BitVec.toNat_ofInt] at h2
  have h3 : (BitVec.ofNat 8 0).toNat = 0 := rfl
  omega
theorem rget_err {place : Int} {b : List Int} (h : (pget place b).2.2 ≠ 0) : (rget place b).2.2.2.2.2.2.2 ≠ 0 := by
  unfold rget
  by_cases c0 : place ≠ 0 ∧ place ≠ 1
  · rw [if_pos c0]
    decide
  · rw [if_neg c0, if_pos h]
    exact h
theorem rget_flip {a b c d e f g : Int} (h : May a b c d e f g) (h4 : 0 ≤ d) {i : Nat} (hi : i < 512) {v : Int} (hv : 0 < v ∧ v < 256) : (rget (a % 2) (flip (rput a b c d e f g).1 i v)).2.2.2.2.2.2.2 ≠ 0 := by
  have hlen := body_len h h4
  rw [rput_yes h]
  exact rget_err (pget_flip (by omega) (by omega) (by decide) (encs_bytes _) (by omega) hi hv)
/-- A root with its page. -/
structure Laid (a b c d e f g : Int) (p : List Int) : Prop where
  ok : rput a b c d e f g = (p, 0)
  may : May a b c d e f g
  d0 : 0 ≤ d
theorem rput_ok {a b c d e f g : Int} (h4 : 0 ≤ d) (h : (rput a b c d e f g).2 = 0) : Laid a b c d e f g (rput a b c d e f g).1 := by
  by_cases hm : May a b c d e f g
  · exact ⟨Prod.ext rfl h, hm, h4⟩
  · unfold rput at h
    rw [if_neg hm] at h
    exact absurd h (by decide)
section
variable {a b c d e f g : Int} {p : List Int}
theorem Laid.get (h : Laid a b c d e f g p) : rget (a % 2) p = (a, b, c, d, e, f, g, 0) := by
  have := rget_rput h.may h.d0
  rwa [h.ok] at this
theorem Laid.len (h : Laid a b c d e f g p) : p.length = 512 := by
  have hl := body_len h.may h.d0
  have := h.ok
  rw [rput_yes h.may] at this
  have hpp : (pput (a % 2) 1 (encs (nums a b c d e f g))).1 = four (crcs (mid (a % 2) 1 (encs (nums a b c d e f g)))) ++ mid (a % 2) 1 (encs (nums a b c d e f g)) := by unfold pput; rw [if_neg (by omega), if_neg (by omega)]
  rw [this] at hpp
  rw [show p = _ from hpp, List.length_append, four_len, mid_len _ _ _ (by omega)]
theorem Laid.bytes (h : Laid a b c d e f g p) : Bytes p := by
  have := bytes_rput a b c d e f g
  rwa [h.ok] at this
theorem Laid.flip (h : Laid a b c d e f g p) {i : Nat} (hi : i < 512) {v : Int} (hv : 0 < v ∧ v < 256) : (rget (a % 2) (flip p i v)).2.2.2.2.2.2.2 ≠ 0 := by
  have := rget_flip h.may h.d0 hi hv
  rwa [h.ok] at this
theorem Laid.lt (h : Laid a b c d e f g p) : 1 ≤ a ∧ a ≤ 4611686018427387904 := ⟨h.may.1, h.may.2.1⟩
end
theorem or_one {v : Int} (hv : 0 ≤ v ∧ v < 256) : 0 < bits .or .u8 v 1 ∧ bits .or .u8 v 1 < 256 := by
  obtain ⟨n, rfl⟩ := Int.eq_ofNat_of_zero_le hv.1
  have h : ∀ m : Fin 256, 0 < bits .or .u8 ((m.val : Nat) : Int) 1 ∧ bits .or .u8 ((m.val : Nat) : Int) 1 < 256 := by decide +kernel
  exact h ⟨n, by omega⟩
/-- What the three picks answer: the next one; the older one where the next one is spoilt; the next one where the older one is. -/
theorem picks {a b c d e f g b' c' d' e' f' g' : Int} {p q : List Int} (hp : Laid a b c d e f g p) (hq : Laid (a + 1) b' c' d' e' f' g' q) {i : Nat} (hi : i < 512) {v : Int} (hv : 0 < v ∧ v < 256) :
    (a % 2 = 0 → rpick p q = (a + 1, b', c', d', e', f', g', 0) ∧ rpick p (flip q i v) = (a, b, c, d, e, f, g, 0) ∧ rpick (flip p i v) q = (a + 1, b', c', d', e', f', g', 0)) ∧
    (a % 2 = 1 → rpick q p = (a + 1, b', c', d', e', f', g', 0) ∧ rpick (flip q i v) p = (a, b, c, d, e, f, g, 0) ∧ rpick q (flip p i v) = (a + 1, b', c', d', e', f', g', 0)) := by
  have gp := hp.get
  have gq := hq.get
  have fp := hp.flip hi hv
  have fq := hq.flip hi hv
  constructor
  · intro h
    have h1 : (a + 1) % 2 = 1 := by omega
    rw [h] at gp fp
    rw [h1] at gq fq
    refine ⟨?_, ?_, ?_⟩
    · rw [rpick_second (by rw [gq]) (Or.inr (by rw [gp, gq]; show a < a + 1; omega)), gq]
    · rw [rpick_first (by rw [gp]) (Or.inl fq), gp]
    · rw [rpick_second (by rw [gq]) (Or.inl fp), gq]
  · intro h
    have h1 : (a + 1) % 2 = 0 := by omega
    rw [h] at gp fp
    rw [h1] at gq fq
    refine ⟨?_, ?_, ?_⟩
    · rw [rpick_first (by rw [gq]) (Or.inr (by rw [gp, gq]; show a ≤ a + 1; omega)), gq]
    · rw [rpick_second (by rw [gp]) (Or.inl fq), gp]
    · rw [rpick_first (by rw [gq]) (Or.inl fp), gq]
end Go.Proofs.Ytkecgmoaojklbaa.Pure
