/- Roots: what Put, Get and Pick of both sides make of numbers and bytes. -/
import Derived.Test.YtkecgmoaojklbaaPPageBack
import Derived.Test.YtkecgmoaojklbaaPAllx4
import Derived.Test.YtkecgmoaojklbaaPAllx6
import Derived.Test.YtkecgmoaojklbaaPAllx3
import Derived.Test.YtkecgmoaojklbaaPAllx5
import Derived.Test.YtkecgmoaojklbaaPAllx7
import Derived.Test.YtkecgmoaojklbaaPAllx16
import Derived.Test.YtkecgmoaojklbaaPAllx17
import Derived.Test.YtkecgmoaojklbaaPAllx11
import Derived.Test.YtkecgmoaojklbaaPAllx12
import Derived.Test.YtkecgmoaojklbaaPAllx8
import Derived.Test.YtkecgmoaojklbaaPAllx10
set_option linter.unusedVariables false
set_option linter.unusedSimpArgs false
namespace Go.Proofs.Ytkecgmoaojklbaa.Pure
open Go Go.RowKit Go.Proofs.Ytkecgmoaojklbaa.PAll Go.Proofs.Ytkecgmoaojklbaa.Crc Go.Proofs.Ytkecgmoaojklbaa.Leb Go.Proofs.YtkecgmoaojklbaaVW.PrintWords Go.Proofs.YtkecgmoaojklbaaVW.PrintLast
set_option maxRecDepth 100000
/-- May a root be? -/
def May (a b c d e f g : Int) : Prop := 1 ≤ a ∧ a ≤ 4611686018427387904 ∧ d ≤ 4611686018427387904 ∧ 2 ≤ c ∧ c ≤ 65536 ∧ (b = 0 ∨ (2 ≤ b ∧ b < c)) ∧ 1 ≤ e ∧ e ≤ 4294967296 ∧ 0 ≤ f ∧ f ≤ 2147483647 ∧ 0 ≤ g ∧ g ≤ 1048576
instance (a b c d e f g : Int) : Decidable (May a b c d e f g) := by unfold May; infer_instance
theorem some_true {p : Prop} [Decidable p] (h : p) : some true = some (decide p) := by rw [decide_eq_true h]
theorem some_false {p : Prop} [Decidable p] (h : ¬ p) : some false = some (decide p) := by rw [decide_eq_false h]
theorem some_dec {p q : Prop} [Decidable p] [Decidable q] (h : q ↔ p) : some (decide q) = some (decide p) := by rw [decide_eq_decide.mpr h]
theorem may_j1 (k : Nat) (a b c d e f g : Int) (x : Bool) (P : Prop) [Decidable P] (hx : x = true → ¬ P) (hP : x = false → (P ↔ (1 ≤ e ∧ e ≤ 4294967296 ∧ 0 ≤ f ∧ f ≤ 2147483647 ∧ 0 ≤ g ∧ g ≤ 1048576))) : root_may.j1 (k + 1) x a b c d e f g = some (decide P) := by
  simp only [root_may.j1]
  by_cases c0 : x = true
  · rw [if_pos c0]
    exact some_false (hx c0)
  · rw [if_neg c0]
    have hQ := hP (Bool.eq_false_iff.mpr c0)
    by_cases c1 : e < 1
    · rw [if_pos c1]
      exact some_false (fun h => by have := hQ.1 h; omega)
    · rw [if_neg c1]
      by_cases c2 : e > 4294967296
      · rw [if_pos c2]
        exact some_false (fun h => by have := hQ.1 h; omega)
      · rw [if_neg c2]
        by_cases c3 : f ≥ 0
        · rw [if_pos c3]
          by_cases c4 : f ≤ 2147483647
          · rw [if_pos c4]
            by_cases c5 : g ≥ 0
            · rw [if_pos c5]
              exact some_dec (by rw [hQ]; omega)
            · rw [if_neg c5]
              exact some_false (fun h => by have := hQ.1 h; omega)
          · rw [if_neg c4]
            exact some_false (fun h => by have := hQ.1 h; omega)
        · rw [if_neg c3]
          exact some_false (fun h => by have := hQ.1 h; omega)
theorem may_j0 (k : Nat) (a b c d e f g : Int) (x : Bool) (hx : x = true → ¬ May a b c d e f g) (hP : x = false → 1 ≤ a ∧ a ≤ 4611686018427387904 ∧ d ≤ 4611686018427387904) : root_may.j0 (k + 2) x a b c d e f g = some (decide (May a b c d e f g)) := by
  simp only [root_may.j0]
  by_cases c0 : x = true
  · rw [if_pos c0]
    exact some_false (hx c0)
  · rw [if_neg c0]
    have hQ := hP (Bool.eq_false_iff.mpr c0)
    by_cases c1 : c < 2
    · rw [if_pos c1]
      exact may_j1 k a b c d e f g true _ (fun _ h => by unfold May at h; omega) (fun h => by cases h)
    · rw [if_neg c1]
      by_cases c2 : c > 65536
      · rw [if_pos c2]
        exact may_j1 k a b c d e f g true _ (fun _ h => by unfold May at h; omega) (fun h => by cases h)
      · rw [if_neg c2]
        by_cases c3 : b = 0
        · rw [if_pos c3]
          exact may_j1 k a b c d e f g false _ (fun h => by cases h) (fun _ => by unfold May; omega)
        · rw [if_neg c3]
          by_cases c4 : b < 2
          · rw [if_pos c4]
            exact may_j1 k a b c d e f g true _ (fun _ h => by unfold May at h; omega) (fun h => by cases h)
          · rw [if_neg c4]
            refine may_j1 k a b c d e f g _ _ (fun q h => ?_) (fun q => ?_)
            · have := of_decide_eq_true q
              unfold May at h
              omega
            · have := of_decide_eq_false q
              unfold May
              omega
theorem may_f (k : Nat) (hk : 3 ≤ k) (a b c d e f g : Int) : root_may.f k a b c d e f g = some (decide (May a b c d e f g)) := by
  obtain ⟨m, rfl⟩ : ∃ m, k = m + 2 := ⟨k - 2, by omega⟩
  unfold root_may.f
  by_cases c0 : (a == 0 && (b == 0 && (c == 0 && (d == 0 && (e == 0 && (f == 0 && (g == 0))))))) = true
  · rw [if_pos c0]
    simp only [Bool.and_eq_true, beq_iff_eq] at c0
    exact some_false (fun h => by unfold May at h; omega)
  · rw [if_neg c0]
    by_cases c1 : a < 1
    · rw [if_pos c1]
      exact may_j0 m a b c d e f g true (fun _ h => by unfold May at h; omega) (fun h => by cases h)
    · rw [if_neg c1]
      by_cases c2 : a > 4611686018427387904
      · rw [if_pos c2]
        exact may_j0 m a b c d e f g true (fun _ h => by unfold May at h; omega) (fun h => by cases h)
      · rw [if_neg c2]
        refine may_j0 m a b c d e f g _ (fun q h => ?_) (fun q => ?_)
        · have := of_decide_eq_true q
          unfold May at h
          omega
        · have := of_decide_eq_false q
          omega
theorem refmay_j0 (k : Nat) (a b c d e f g : Int) (x : Bool) (hx : x = true → ¬ May a b c d e f g) (hP : x = false → 1 ≤ a ∧ a ≤ 4611686018427387904 ∧ d ≤ 4611686018427387904 ∧ 2 ≤ c ∧ c ≤ 65536) : stookref16_May.j0 (k + 1) x a b c d e f g = some (decide (May a b c d e f g)) := by
  simp only [stookref16_May.j0]
  by_cases c0 : x = true
  · rw [if_pos c0]
    exact some_false (hx c0)
  · rw [if_neg c0]
    have hQ := hP (Bool.eq_false_iff.mpr c0)
    have hw : wrap64 (c - 1) = c - 1 := by unfold wrap64; omega
    have tail : ∀ P : Prop, ∀ [Decidable P], (P ↔ (1 ≤ e ∧ e ≤ 4294967296 ∧ 0 ≤ f ∧ f ≤ 2147483647 ∧ 0 ≤ g ∧ g ≤ 1048576)) → (if e ≥ 1 then (if e ≤ 4294967296 then (if f ≥ 0 then (if f ≤ 2147483647 then (if g ≥ 0 then (some (decide (g ≤ 1048576))) else (some false)) else (some false)) else (some false)) else (some false)) else (some false)) = some (decide P) := by
      intro P _ hQ
      by_cases c1 : e ≥ 1
      · rw [if_pos c1]
        by_cases c2 : e ≤ 4294967296
        · rw [if_pos c2]
          by_cases c3 : f ≥ 0
          · rw [if_pos c3]
            by_cases c4 : f ≤ 2147483647
            · rw [if_pos c4]
              by_cases c5 : g ≥ 0
              · rw [if_pos c5]
                exact some_dec (by rw [hQ]; omega)
              · rw [if_neg c5]
                exact some_false (fun h => by have := hQ.1 h; omega)
            · rw [if_neg c4]
              exact some_false (fun h => by have := hQ.1 h; omega)
          · rw [if_neg c3]
            exact some_false (fun h => by have := hQ.1 h; omega)
        · rw [if_neg c2]
          exact some_false (fun h => by have := hQ.1 h; omega)
      · rw [if_neg c1]
        exact some_false (fun h => by have := hQ.1 h; omega)
    by_cases c3 : b = 0
    · rw [if_pos c3]
      exact tail _ (by unfold May; omega)
    · rw [if_neg c3]
      by_cases c4 : b < 2
      · rw [if_pos c4]
        exact some_false (fun h => by unfold May at h; omega)
      · rw [if_neg c4, hw]
        by_cases c5 : b > c - 1
        · rw [if_pos c5]
          exact some_false (fun h => by unfold May at h; omega)
        · rw [if_neg c5]
          exact tail _ (by unfold May; omega)
theorem refmay_f (k : Nat) (hk : 1 ≤ k) (a b c d e f g : Int) : stookref16_May.f k a b c d e f g = some (decide (May a b c d e f g)) := by
  obtain ⟨m, rfl⟩ : ∃ m, k = m + 1 := ⟨k - 1, by omega⟩
  unfold stookref16_May.f
  by_cases c1 : a < 1
  · rw [if_pos c1]
    exact refmay_j0 m a b c d e f g true (fun _ h => by unfold May at h; omega) (fun h => by cases h)
  · rw [if_neg c1]
    by_cases c2 : a > 4611686018427387904
    · rw [if_pos c2]
      exact refmay_j0 m a b c d e f g true (fun _ h => by unfold May at h; omega) (fun h => by cases h)
    · rw [if_neg c2]
      by_cases c3 : c < 2
      · rw [if_pos c3]
        exact refmay_j0 m a b c d e f g true (fun _ h => by unfold May at h; omega) (fun h => by cases h)
      · rw [if_neg c3]
        by_cases c4 : c > 65536
        · rw [if_pos c4]
          exact refmay_j0 m a b c d e f g true (fun _ h => by unfold May at h; omega) (fun h => by cases h)
        · rw [if_neg c4]
          refine refmay_j0 m a b c d e f g _ (fun q h => ?_) (fun q => ?_)
          · have := of_decide_eq_true q
            unfold May at h
            omega
          · have := of_decide_eq_false q
            omega
/-- The numbers of a root, in their order. -/
def nums (a b c d e f g : Int) : List Nat := [a.toNat, b.toNat, c.toNat, d.toNat, e.toNat, f.toNat, g.toNat]
theorem enc_le (n : Nat) (h : n < 18446744073709551616) : (enc n).length ≤ 10 := enc_ten h
theorem encs_le : ∀ l : List Nat, (∀ n ∈ l, n < 18446744073709551616) → (encs l).length ≤ 10 * l.length
  | [], _ => Nat.zero_le _
  | n :: l, h => by
    have h1 := enc_le n (h n List.mem_cons_self)
    have h2 := encs_le l (fun m hm => h m (List.mem_cons_of_mem _ hm))
    have e : encs (n :: l) = enc n ++ encs l := rfl
    rw [e, List.length_append, List.length_cons]
    omega
theorem encs_bytes (l : List Nat) : Bytes (encs l) := by
  intro x hx
  obtain ⟨n, _, hn⟩ := List.mem_flatMap.1 hx
  exact bytes_enc n x hn
theorem rput_l (l : List Nat) (hl : l.length ≤ 7) (hw : ∀ n ∈ l, n < 18446744073709551616) (q1 q2 q3 q4 q5 q6 q7 : Int) (d : Nat) : ∀ (k i : Nat) (acc : List Int), i + d = l.length → acc.length ≤ 10 * i → Bytes acc → d + 1100 < k →
    root_Put.l0 k acc (ints l) (l.length : Int) (i : Int) q1 q2 q3 q4 q5 q6 q7 = some (pput (wrap64 (Int.tmod q1 2)) 1 (acc ++ encs (l.drop i))) := by
  induction d with
  | zero =>
    intro k i acc hi ha hb hk
    obtain ⟨k, rfl⟩ : ∃ m, k = m + 1 := ⟨k - 1, by omega⟩
    simp only [root_Put.l0]
    rw [if_neg (by omega), List.drop_of_length_le (by omega), show encs [] = ([] : List Int) from rfl, List.append_nil]
    unfold root_Place.f
    simp only [Option.bind_some]
    rw [pageput_f k _ 1 acc (by omega) (by omega) hb]
    rfl
  | succ d ih =>
    intro k i acc hi ha hb hk
    obtain ⟨k, rfl⟩ : ∃ m, k = m + 1 := ⟨k - 1, by omega⟩
    have hil : i < l.length := by omega
    have hn := hw l[i] (List.getElem_mem hil)
    have he := enc_le l[i] hn
    simp only [root_Put.l0]
    rw [if_pos (by omega), if_pos (by omega), if_pos (by rw [ints_len]; omega), rd_ints l i hil, put_f k l[i] hn (by omega)]
    simp only [Option.bind_some]
    rw [if_pos (by omega), show wrap64 ((i : Int) + 1) = ((i + 1 : Nat) : Int) by unfold wrap64; omega]
    rw [ih k (i + 1) (acc ++ enc l[i]) (by omega) (by rw [List.length_append]; omega) (Bytes.append hb (bytes_enc _)) (by omega)]
    rw [List.append_assoc, show enc l[i] ++ encs (l.drop (i + 1)) = encs (l.drop i) by rw [List.drop_eq_getElem_cons hil]; rfl]
theorem refrput_l (l : List Nat) (hl : l.length ≤ 7) (hw : ∀ n ∈ l, n < 18446744073709551616) (q1 q2 q3 q4 q5 q6 q7 : Int) (d : Nat) : ∀ (k i : Nat) (acc : List Int), i + d = l.length → acc.length ≤ 10 * i → Bytes acc → d + 1300 < k →
    stookref16_Put.l0 k (ints l) acc (i : Int) q1 q2 q3 q4 q5 q6 q7 = some (pput (wrap64 (Int.tmod q1 2)) 1 (acc ++ encs (l.drop i))) := by
  induction d with
  | zero =>
    intro k i acc hi ha hb hk
    obtain ⟨k, rfl⟩ : ∃ m, k = m + 1 := ⟨k - 1, by omega⟩
    simp only [stookref16_Put.l0]
    rw [if_neg (by rw [ints_len]; omega), List.drop_of_length_le (by omega), show encs [] = ([] : List Int) from rfl, List.append_nil]
    rw [refpageput_f k _ 1 acc (by omega) (by omega) hb]
    rfl
  | succ d ih =>
    intro k i acc hi ha hb hk
    obtain ⟨k, rfl⟩ : ∃ m, k = m + 1 := ⟨k - 1, by omega⟩
    have hil : i < l.length := by omega
    have hn := hw l[i] (List.getElem_mem hil)
    have he := enc_le l[i] hn
    simp only [stookref16_Put.l0]
    rw [if_pos (by rw [ints_len]; omega), if_pos (by omega), rd_ints l i hil, refput_f k l[i] hn (by omega)]
    simp only [Option.bind_some]
    rw [if_pos (by omega), show wrap64 ((i : Int) + 1) = ((i + 1 : Nat) : Int) by unfold wrap64; omega]
    rw [ih k (i + 1) (acc ++ enc l[i]) (by omega) (by rw [List.length_append]; omega) (Bytes.append hb (bytes_enc _)) (by omega)]
    rw [List.append_assoc, show enc l[i] ++ encs (l.drop (i + 1)) = encs (l.drop i) by rw [List.drop_eq_getElem_cons hil]; rfl]
/-- What Put makes of a root. -/
def rput (a b c d e f g : Int) : List Int × Int := if May a b c d e f g then pput (wrap64 (Int.tmod a 2)) 1 (encs (nums a b c d e f g)) else ([], 2)
theorem wrap_u64 {x : Int} (h0 : 0 ≤ x) (h : x < 18446744073709551616) : IntKind.u64.wrap x = x := by rw [IntKind.wrap_u64]; omega
theorem nums_ints {a b c d e f g : Int} (h : May a b c d e f g) (h4 : 0 ≤ d) : ([a, IntKind.u64.wrap b, IntKind.u64.wrap c, d, e, IntKind.u64.wrap f, IntKind.u64.wrap g] : List Int) = ints (nums a b c d e f g) ∧ ∀ n ∈ nums a b c d e f g, n < 18446744073709551616 := by
  unfold May at h
  rw [wrap_u64 (x := b) (by omega) (by omega), wrap_u64 (x := c) (by omega) (by omega), wrap_u64 (x := f) (by omega) (by omega), wrap_u64 (x := g) (by omega) (by omega)]
  refine ⟨?_, ?_⟩
  · unfold ints nums
    simp only [List.map_cons, List.map_nil, Int.ofNat_eq_natCast, List.cons.injEq, and_true]
    omega
  · intro n hn
    unfold nums at hn
    simp only [List.mem_cons, List.not_mem_nil, or_false] at hn
    omega
theorem rput_f (k : Nat) (hk : 1200 < k) (a b c d e f g : Int) (h4 : 0 ≤ d) : root_Put.f k a b c d e f g = some (rput a b c d e f g) := by
  unfold root_Put.f rput
  rw [may_f k (by omega)]
  simp only [Option.bind_some]
  by_cases h : May a b c d e f g
  · rw [if_pos (decide_eq_true h), if_pos h]
    obtain ⟨h1, h2⟩ := nums_ints h h4
    rw [h1, ints_len]
    have := rput_l (nums a b c d e f g) (Nat.le_refl _) h2 a b c d e f g 7 k 0 [] rfl (Nat.zero_le _) (fun x hx => by cases hx) (by omega)
    exact this
  · rw [if_neg (by rw [decide_eq_false h]; decide), if_neg h]
theorem refrput_f (k : Nat) (hk : 1400 < k) (a b c d e f g : Int) (h4 : 0 ≤ d) : stookref16_Put.f k a b c d e f g = some (rput a b c d e f g) := by
  unfold stookref16_Put.f rput
  rw [refmay_f k (by omega)]
  simp only [Option.bind_some]
  by_cases h : May a b c d e f g
  · rw [if_pos (decide_eq_true h), if_pos h]
    obtain ⟨h1, h2⟩ := nums_ints h h4
    rw [h1]
    exact refrput_l (nums a b c d e f g) (Nat.le_refl _) h2 a b c d e f g 7 k 0 [] rfl (Nat.zero_le _) (fun x hx => by cases hx) (by omega)
  · rw [if_neg (by rw [decide_eq_false h]; decide), if_neg h]
theorem low32_eq {n : Int} (h0 : 0 ≤ n) (h1 : n ≤ 2147483648) : low32 n = n := by
  unfold low32
  have h : bits .and .u64 n 4294967295 = n % 4294967296 := by
    show IntKind.u64.wrap (((BitVec.ofInt 64 n) &&& (BitVec.ofInt 64 4294967295)).toNat : Int) = _
    obtain ⟨m, rfl⟩ := Int.eq_ofNat_of_zero_le h0
    have h3 : (BitVec.ofInt 64 (m : Int)).toNat = m := by rw [BitVec.toNat_ofInt]; omega
    rw [BitVec.toNat_and, h3, show (BitVec.ofInt 64 4294967295).toNat = 2 ^ 32 - 1 by decide, Nat.and_two_pow_sub_one_eq_mod, IntKind.wrap_u64]
    omega
  rw [h]
  unfold wrap64
  omega
/-- The seven numbers of a body, and where each is read. -/
def x0 (l : List Int) := gets l 0
def x1 (l : List Int) := gets l (x0 l).2.1
def x2 (l : List Int) := gets l (x1 l).2.1
def x3 (l : List Int) := gets l (x2 l).2.1
def x4 (l : List Int) := gets l (x3 l).2.1
def x5 (l : List Int) := gets l (x4 l).2.1
def x6 (l : List Int) := gets l (x5 l).2.1
/-- Is a body a root's, for a place? -/
def Whole (place : Int) (l : List Int) : Prop := (x0 l).2.2 = 0 ∧ (x1 l).2.2 = 0 ∧ (x2 l).2.2 = 0 ∧ (x3 l).2.2 = 0 ∧ (x4 l).2.2 = 0 ∧ (x5 l).2.2 = 0 ∧ (x6 l).2.2 = 0 ∧ (x6 l).2.1 = (l.length : Int) ∧
  May (x0 l).1 (x1 l).1 (x2 l).1 (x3 l).1 (x4 l).1 (x5 l).1 (x6 l).1 ∧ (x0 l).1 % 2 = place
instance (place : Int) (l : List Int) : Decidable (Whole place l) := by unfold Whole; infer_instance
/-- What Get makes of a place and bytes. -/
def rget (place : Int) (b : List Int) : Int × Int × Int × Int × Int × Int × Int × Int :=
  if place ≠ 0 ∧ place ≠ 1 then (0, 0, 0, 0, 0, 0, 0, 2) else
  if (pget place b).2.2 ≠ 0 then (0, 0, 0, 0, 0, 0, 0, (pget place b).2.2) else
  if (pget place b).1 = 1 ∧ Whole place (pget place b).2.1 then ((x0 (pget place b).2.1).1, (x1 (pget place b).2.1).1, (x2 (pget place b).2.1).1, (x3 (pget place b).2.1).1, (x4 (pget place b).2.1).1, (x5 (pget place b).2.1).1, (x6 (pget place b).2.1).1, 0) else (0, 0, 0, 0, 0, 0, 0, 5)
theorem gets_range (b : List Int) (a : Int) (hb : Bytes b) : 0 ≤ (gets b a).1 ∧ (gets b a).1 < 18446744073709551616 := by
  rcases gets_cases b a hb with ⟨e, _, h⟩ | ⟨v, n, m, _, h, hv, _⟩
  · rw [h]
    exact ⟨Int.le_refl 0, show (0 : Int) < 18446744073709551616 by decide⟩
  · rw [h]
    exact ⟨by show (0 : Int) ≤ (v : Int); omega, by show (v : Int) < 18446744073709551616; omega⟩
theorem bytes_pget {n : Int} {b : List Int} (hb : Bytes b) : Bytes (pget n b).2.1 := by
  unfold pget
  by_cases c1 : n < 0 ∨ n ≥ 65536
  · rw [if_pos c1]; intro x hx; cases hx
  · rw [if_neg c1]
    by_cases c2 : b.length < 512
    · rw [if_pos c2]; intro x hx; cases hx
    · rw [if_neg c2]
      by_cases c3 : b.length > 512
      · rw [if_pos c3]; intro x hx; cases hx
      · rw [if_neg c3]
        by_cases c4 : b.take 4 = four (crcs (b.drop 4))
        · rw [if_pos c4]
          by_cases c5 : rd b 10 + rd b 11 * 256 > 496
          · rw [if_pos c5]; intro x hx; cases hx
          · rw [if_neg c5]
            by_cases c6 : (pput n (rd b 8) ((b.drop 12).take (rd b 10 + rd b 11 * 256).toNat)).1 = b
            · rw [if_pos c6]
              exact Bytes.take (Bytes.drop hb 12) _
            · rw [if_neg c6]; intro x hx; cases hx
        · rw [if_neg c4]; intro x hx; cases hx
theorem tmod_two {a : Int} (h : 0 ≤ a) : wrap64 (Int.tmod a 2) = a % 2 := by
  rw [Int.tmod_eq_emod_of_nonneg h]
  unfold wrap64
  omega
theorem rget_f (k : Nat) (hk : 1000 < k) (place : Int) (b : List Int) (hb : Bytes b) : root_Get.f k place b = some (rget place b) := by
  unfold root_Get.f rget
  by_cases c0 : place = 0 ∨ place = 1
  · rw [if_pos c0, if_neg (by omega), pageget_f k place b hk hb]
    simp only [Option.bind_some]
    have hbo := bytes_pget (n := place) hb
    have hlen := pget_len place b
    by_cases c1 : (pget place b).2.2 = 0
    · rw [if_pos c1, if_neg (by omega)]
      have hl48 : (pget place b).2.1.length ≤ 281474976710656 := by
        have h := (pget_form c1).2.2.1
        omega
      generalize (pget place b).1 = kind
      generalize (pget place b).2.1 = l at *
      have g0 : leb_Get.f k l 0 = some (x0 l) := get_f k l 0 hbo hl48 (by omega)
      have g1 : leb_Get.f k l (x0 l).2.1 = some (x1 l) := get_f k l _ hbo hl48 (by omega)
      have g2 : leb_Get.f k l (x1 l).2.1 = some (x2 l) := get_f k l _ hbo hl48 (by omega)
      have g3 : leb_Get.f k l (x2 l).2.1 = some (x3 l) := get_f k l _ hbo hl48 (by omega)
      have g4 : leb_Get.f k l (x3 l).2.1 = some (x4 l) := get_f k l _ hbo hl48 (by omega)
      have g5 : leb_Get.f k l (x4 l).2.1 = some (x5 l) := get_f k l _ hbo hl48 (by omega)
      have g6 : leb_Get.f k l (x5 l).2.1 = some (x6 l) := get_f k l _ hbo hl48 (by omega)
      have r0 := gets_range l 0 hbo
      have r1 := gets_range l (x0 l).2.1 hbo
      have r2 := gets_range l (x1 l).2.1 hbo
      have r3 := gets_range l (x2 l).2.1 hbo
      have r4 := gets_range l (x3 l).2.1 hbo
      have r5 := gets_range l (x4 l).2.1 hbo
      have r6 := gets_range l (x5 l).2.1 hbo
      unfold root_nums
      rw [g0]
      simp only [Option.bind_some]
      rw [g1]
      simp only [Option.bind_some]
      rw [g2]
      simp only [Option.bind_some]
      rw [g3]
      simp only [Option.bind_some]
      rw [g4]
      simp only [Option.bind_some]
      rw [g5]
      simp only [Option.bind_some]
      rw [g6]
      simp only [Option.bind_some]
      replace r0 : 0 ≤ (x0 l).1 := r0.1
      replace r1 : 0 ≤ (x1 l).1 := r1.1
      replace r2 : 0 ≤ (x2 l).1 := r2.1
      replace r3 : 0 ≤ (x3 l).1 := r3.1
      replace r4 : 0 ≤ (x4 l).1 := r4.1
      replace r5 : 0 ≤ (x5 l).1 := r5.1
      replace r6 : 0 ≤ (x6 l).1 := r6.1
      clear g0 g1 g2 g3 g4 g5 g6
      by_cases hbad : ((((((((((((kind != 1) || (x0 l).2.2 != 0) || (x1 l).2.2 != 0) || decide ((x1 l).1 > 2147483648)) || (x2 l).2.2 != 0) || decide ((x2 l).1 > 2147483648)) || (x3 l).2.2 != 0) || (x4 l).2.2 != 0) || (x5 l).2.2 != 0) || decide ((x5 l).1 > 2147483648)) || (x6 l).2.2 != 0) || decide ((x6 l).1 > 2147483648)) = true
      · rw [if_pos hbad]
        simp only [Bool.or_eq_true, bne_iff_ne, decide_eq_true_eq] at hbad
        rw [if_neg]
        rintro ⟨h1, h2⟩
        unfold Whole May at h2
        omega
      · rw [if_neg hbad]
        simp only [Bool.or_eq_true, bne_iff_ne, decide_eq_true_eq] at hbad
        by_cases c2 : (x6 l).2.1 = (l.length : Int)
        · rw [if_pos c2, low32_eq (n := (x1 l).1) (by omega) (by omega), low32_eq (n := (x2 l).1) (by omega) (by omega), low32_eq (n := (x5 l).1) (by omega) (by omega), low32_eq (n := (x6 l).1) (by omega) (by omega), may_f k (by omega)]
          simp only [Option.bind_some]
          by_cases c3 : May (x0 l).1 (x1 l).1 (x2 l).1 (x3 l).1 (x4 l).1 (x5 l).1 (x6 l).1
          · rw [if_pos (decide_eq_true c3), tmod_two (by omega)]
            by_cases c4 : (x0 l).1 % 2 = place
            · rw [if_pos c4, if_pos]
              exact ⟨by omega, by omega, by omega, by omega, by omega, by omega, by omega, by omega, c2, c3, c4⟩
            · rw [if_neg c4, if_neg]
              rintro ⟨_, h⟩
              exact c4 h.2.2.2.2.2.2.2.2.2
          · rw [if_neg (by rw [decide_eq_false c3]; decide), if_neg]
            rintro ⟨_, h⟩
            exact c3 h.2.2.2.2.2.2.2.2.1
        · rw [if_neg c2, if_neg]
          rintro ⟨_, h⟩
          exact c2 h.2.2.2.2.2.2.2.1
    · rw [if_neg c1, if_pos c1]
  · rw [if_neg c0, if_pos (by omega)]
theorem refget_step (k : Nat) (hk : 26 < k) (place : Int) (l acc : List Int) (a : Int) (i : Nat) (hb : Bytes l) (hl : l.length ≤ 281474976710656) (hi : i < 7) (ha : acc.length < 100) :
    stookref16_Get.l0 (k + 1) place l acc a (i : Int) = if (gets l a).2.2 = 0 ∧ (i = 0 ∨ i = 3 ∨ (gets l a).1 ≤ 8589934592) then stookref16_Get.l0 k place l (acc ++ [(gets l a).1]) (gets l a).2.1 ((i + 1 : Nat) : Int) else some (0, 0, 0, 0, 0, 0, 0, 5) := by
  simp only [stookref16_Get.l0]
  rw [if_pos (by omega), refget_f k l a hb hl hk]
  simp only [Option.bind_some]
  have hw : wrap64 ((i : Int) + 1) = ((i + 1 : Nat) : Int) := by unfold wrap64; omega
  by_cases c0 : (gets l a).2.2 = 0
  · rw [if_pos c0]
    by_cases c1 : (i : Int) = 0
    · rw [if_pos c1, if_pos (by omega), hw, if_pos ⟨c0, by omega⟩]
    · rw [if_neg c1]
      by_cases c2 : (i : Int) = 3
      · rw [if_pos c2, if_pos (by omega), hw, if_pos ⟨c0, by omega⟩]
      · rw [if_neg c2]
        by_cases c3 : (gets l a).1 > 8589934592
        · rw [if_pos c3, if_neg (by omega)]
        · rw [if_neg c3, if_pos (by omega), hw, if_pos ⟨c0, by omega⟩]
  · rw [if_neg c0, if_neg (fun h => c0 h.1)]
theorem refget_end (k : Nat) (hk : 1 ≤ k) (place : Int) (l : List Int) (n0 n1 n2 n3 n4 n5 n6 a : Int) (h0 : 0 ≤ n0) (w1 : wrap64 n1 = n1) (w2 : wrap64 n2 = n2) (w5 : wrap64 n5 = n5) (w6 : wrap64 n6 = n6) :
    stookref16_Get.l0 (k + 1) place l [n0, n1, n2, n3, n4, n5, n6] a ((7 : Nat) : Int) = if a = (l.length : Int) ∧ May n0 n1 n2 n3 n4 n5 n6 ∧ n0 % 2 = place then some (n0, n1, n2, n3, n4, n5, n6, 0) else some (0, 0, 0, 0, 0, 0, 0, 5) := by
  simp only [stookref16_Get.l0]
  have e : ([n0, n1, n2, n3, n4, n5, n6] : List Int).length = 7 := rfl
  rw [if_neg (by decide), e, if_pos (by decide), if_pos (by decide), if_pos (by decide), if_pos (by decide), if_pos (by decide), if_pos (by decide), if_pos (by decide)]
  rw [show rd [n0, n1, n2, n3, n4, n5, n6] 0 = n0 from rfl, show rd [n0, n1, n2, n3, n4, n5, n6] 1 = n1 from rfl, show rd [n0, n1, n2, n3, n4, n5, n6] 2 = n2 from rfl, show rd [n0, n1, n2, n3, n4, n5, n6] 3 = n3 from rfl, show rd [n0, n1, n2, n3, n4, n5, n6] 4 = n4 from rfl, show rd [n0, n1, n2, n3, n4, n5, n6] 5 = n5 from rfl, show rd [n0, n1, n2, n3, n4, n5, n6] 6 = n6 from rfl, w1, w2, w5, w6]
  by_cases c0 : a = (l.length : Int)
  · rw [if_pos c0, refmay_f k hk]
    simp only [Option.bind_some]
    by_cases c1 : May n0 n1 n2 n3 n4 n5 n6
    · rw [if_pos (decide_eq_true c1), tmod_two h0]
      by_cases c2 : n0 % 2 = place
      · rw [if_pos c2, if_pos ⟨c0, c1, c2⟩]
      · rw [if_neg c2, if_neg (fun h => c2 h.2.2)]
    · rw [if_neg (by rw [decide_eq_false c1]; decide), if_neg (fun h => c1 h.2.1)]
  · rw [if_neg c0, if_neg (fun h => c0 h.1)]
theorem refrget_f (k : Nat) (hk : 2100 < k) (place : Int) (b : List Int) (hb : Bytes b) : stookref16_Get.f k place b = some (rget place b) := by
  have start : stookref16_Get.f k place b = stookref16_Get.j0 k place b (decide (place ≠ 0 ∧ place ≠ 1)) := by
    unfold stookref16_Get.f
    by_cases c0 : place = 0
    · rw [if_pos c0, decide_eq_false (by omega)]
    · rw [if_neg c0]
      congr 1
      by_cases c1 : place = 1
      · rw [decide_eq_false (by omega)]
        exact bne_eq_false_iff_eq.mpr c1
      · rw [decide_eq_true ⟨c0, c1⟩]
        exact bne_iff_ne.mpr c1
  rw [start]
  unfold rget
  obtain ⟨k, rfl⟩ : ∃ m, k = m + 9 := ⟨k - 9, by omega⟩
  rw [show k + 9 = (k + 8) + 1 from rfl]
  simp only [stookref16_Get.j0]
  by_cases c0 : place ≠ 0 ∧ place ≠ 1
  · rw [if_pos (decide_eq_true c0), if_pos c0]
  · rw [if_neg (by rw [decide_eq_false c0]; decide), if_neg c0, refpageget_f (k + 8) place b (by omega) hb]
    simp only [Option.bind_some]
    have hbo := bytes_pget (n := place) hb
    have hlen := pget_len place b
    by_cases c1 : (pget place b).2.2 = 0
    · rw [if_pos c1, if_neg (show ¬ ((pget place b).2.2 ≠ 0) from fun h => h c1)]
      have hl48 : (pget place b).2.1.length ≤ 281474976710656 := by
        have h := (pget_form c1).2.2.1
        omega
      by_cases ck : (pget place b).1 = 1
      · rw [if_pos ck]
        generalize (pget place b).1 = kind at *
        generalize (pget place b).2.1 = l at *
        have r0 := gets_range l 0 hbo
        have r1 := gets_range l (x0 l).2.1 hbo
        have r2 := gets_range l (x1 l).2.1 hbo
        have r3 := gets_range l (x2 l).2.1 hbo
        have r4 := gets_range l (x3 l).2.1 hbo
        have r5 := gets_range l (x4 l).2.1 hbo
        have r6 := gets_range l (x5 l).2.1 hbo
        replace r0 : 0 ≤ (x0 l).1 := r0.1
        replace r1 : 0 ≤ (x1 l).1 := r1.1
        replace r2 : 0 ≤ (x2 l).1 := r2.1
        replace r3 : 0 ≤ (x3 l).1 := r3.1
        replace r4 : 0 ≤ (x4 l).1 := r4.1
        replace r5 : 0 ≤ (x5 l).1 := r5.1
        replace r6 : 0 ≤ (x6 l).1 := r6.1
        have s0 : stookref16_Get.l0 (k + 7 + 1) place l ([] : List Int) 0 ((0 : Nat) : Int) = if (x0 l).2.2 = 0 ∧ ((0 : Nat) = 0 ∨ (0 : Nat) = 3 ∨ (x0 l).1 ≤ 8589934592) then stookref16_Get.l0 (k + 7) place l [(x0 l).1] (x0 l).2.1 ((1 : Nat) : Int) else some (0, 0, 0, 0, 0, 0, 0, 5) := refget_step (k + 7) (by omega) place l ([] : List Int) 0 0 hbo hl48 (by decide) (by show 0 < 100; decide)
        have s1 : stookref16_Get.l0 (k + 6 + 1) place l [(x0 l).1] (x0 l).2.1 ((1 : Nat) : Int) = if (x1 l).2.2 = 0 ∧ ((1 : Nat) = 0 ∨ (1 : Nat) = 3 ∨ (x1 l).1 ≤ 8589934592) then stookref16_Get.l0 (k + 6) place l [(x0 l).1, (x1 l).1] (x1 l).2.1 ((2 : Nat) : Int) else some (0, 0, 0, 0, 0, 0, 0, 5) := refget_step (k + 6) (by omega) place l [(x0 l).1] (x0 l).2.1 1 hbo hl48 (by decide) (by show 1 < 100; decide)
        have s2 : stookref16_Get.l0 (k + 5 + 1) place l [(x0 l).1, (x1 l).1] (x1 l).2.1 ((2 : Nat) : Int) = if (x2 l).2.2 = 0 ∧ ((2 : Nat) = 0 ∨ (2 : Nat) = 3 ∨ (x2 l).1 ≤ 8589934592) then stookref16_Get.l0 (k + 5) place l [(x0 l).1, (x1 l).1, (x2 l).1] (x2 l).2.1 ((3 : Nat) : Int) else some (0, 0, 0, 0, 0, 0, 0, 5) := refget_step (k + 5) (by omega) place l [(x0 l).1, (x1 l).1] (x1 l).2.1 2 hbo hl48 (by decide) (by show 2 < 100; decide)
        have s3 : stookref16_Get.l0 (k + 4 + 1) place l [(x0 l).1, (x1 l).1, (x2 l).1] (x2 l).2.1 ((3 : Nat) : Int) = if (x3 l).2.2 = 0 ∧ ((3 : Nat) = 0 ∨ (3 : Nat) = 3 ∨ (x3 l).1 ≤ 8589934592) then stookref16_Get.l0 (k + 4) place l [(x0 l).1, (x1 l).1, (x2 l).1, (x3 l).1] (x3 l).2.1 ((4 : Nat) : Int) else some (0, 0, 0, 0, 0, 0, 0, 5) := refget_step (k + 4) (by omega) place l [(x0 l).1, (x1 l).1, (x2 l).1] (x2 l).2.1 3 hbo hl48 (by decide) (by show 3 < 100; decide)
        have s4 : stookref16_Get.l0 (k + 3 + 1) place l [(x0 l).1, (x1 l).1, (x2 l).1, (x3 l).1] (x3 l).2.1 ((4 : Nat) : Int) = if (x4 l).2.2 = 0 ∧ ((4 : Nat) = 0 ∨ (4 : Nat) = 3 ∨ (x4 l).1 ≤ 8589934592) then stookref16_Get.l0 (k + 3) place l [(x0 l).1, (x1 l).1, (x2 l).1, (x3 l).1, (x4 l).1] (x4 l).2.1 ((5 : Nat) : Int) else some (0, 0, 0, 0, 0, 0, 0, 5) := refget_step (k + 3) (by omega) place l [(x0 l).1, (x1 l).1, (x2 l).1, (x3 l).1] (x3 l).2.1 4 hbo hl48 (by decide) (by show 4 < 100; decide)
        have s5 : stookref16_Get.l0 (k + 2 + 1) place l [(x0 l).1, (x1 l).1, (x2 l).1, (x3 l).1, (x4 l).1] (x4 l).2.1 ((5 : Nat) : Int) = if (x5 l).2.2 = 0 ∧ ((5 : Nat) = 0 ∨ (5 : Nat) = 3 ∨ (x5 l).1 ≤ 8589934592) then stookref16_Get.l0 (k + 2) place l [(x0 l).1, (x1 l).1, (x2 l).1, (x3 l).1, (x4 l).1, (x5 l).1] (x5 l).2.1 ((6 : Nat) : Int) else some (0, 0, 0, 0, 0, 0, 0, 5) := refget_step (k + 2) (by omega) place l [(x0 l).1, (x1 l).1, (x2 l).1, (x3 l).1, (x4 l).1] (x4 l).2.1 5 hbo hl48 (by decide) (by show 5 < 100; decide)
        have s6 : stookref16_Get.l0 (k + 1 + 1) place l [(x0 l).1, (x1 l).1, (x2 l).1, (x3 l).1, (x4 l).1, (x5 l).1] (x5 l).2.1 ((6 : Nat) : Int) = if (x6 l).2.2 = 0 ∧ ((6 : Nat) = 0 ∨ (6 : Nat) = 3 ∨ (x6 l).1 ≤ 8589934592) then stookref16_Get.l0 (k + 1) place l [(x0 l).1, (x1 l).1, (x2 l).1, (x3 l).1, (x4 l).1, (x5 l).1, (x6 l).1] (x6 l).2.1 ((7 : Nat) : Int) else some (0, 0, 0, 0, 0, 0, 0, 5) := refget_step (k + 1) (by omega) place l [(x0 l).1, (x1 l).1, (x2 l).1, (x3 l).1, (x4 l).1, (x5 l).1] (x5 l).2.1 6 hbo hl48 (by decide) (by show 6 < 100; decide)
        have s7 := refget_end k (by omega) place l (x0 l).1 (x1 l).1 (x2 l).1 (x3 l).1 (x4 l).1 (x5 l).1 (x6 l).1 (x6 l).2.1 r0
        by_cases d0 : (x0 l).2.2 = 0 ∧ ((0 : Nat) = 0 ∨ (0 : Nat) = 3 ∨ (x0 l).1 ≤ 8589934592)
        · rw [if_pos d0] at s0
          by_cases d1 : (x1 l).2.2 = 0 ∧ ((1 : Nat) = 0 ∨ (1 : Nat) = 3 ∨ (x1 l).1 ≤ 8589934592)
          · rw [if_pos d1] at s1
            by_cases d2 : (x2 l).2.2 = 0 ∧ ((2 : Nat) = 0 ∨ (2 : Nat) = 3 ∨ (x2 l).1 ≤ 8589934592)
            · rw [if_pos d2] at s2
              by_cases d3 : (x3 l).2.2 = 0 ∧ ((3 : Nat) = 0 ∨ (3 : Nat) = 3 ∨ (x3 l).1 ≤ 8589934592)
              · rw [if_pos d3] at s3
                by_cases d4 : (x4 l).2.2 = 0 ∧ ((4 : Nat) = 0 ∨ (4 : Nat) = 3 ∨ (x4 l).1 ≤ 8589934592)
                · rw [if_pos d4] at s4
                  by_cases d5 : (x5 l).2.2 = 0 ∧ ((5 : Nat) = 0 ∨ (5 : Nat) = 3 ∨ (x5 l).1 ≤ 8589934592)
                  · rw [if_pos d5] at s5
                    by_cases d6 : (x6 l).2.2 = 0 ∧ ((6 : Nat) = 0 ∨ (6 : Nat) = 3 ∨ (x6 l).1 ≤ 8589934592)
                    · rw [if_pos d6] at s6
                      rw [show (stookref16_Get.l0 (k + 8) place l ([] : List Int) 0 0) = stookref16_Get.l0 (k + 7 + 1) place l ([] : List Int) 0 ((0 : Nat) : Int) from rfl, s0, show k + 7 = k + 6 + 1 from rfl, s1, show k + 6 = k + 5 + 1 from rfl, s2, show k + 5 = k + 4 + 1 from rfl, s3, show k + 4 = k + 3 + 1 from rfl, s4, show k + 3 = k + 2 + 1 from rfl, s5, show k + 2 = k + 1 + 1 from rfl, s6]
                      rw [s7 (by unfold wrap64; omega) (by unfold wrap64; omega) (by unfold wrap64; omega) (by unfold wrap64; omega)]
                      by_cases d7 : (x6 l).2.1 = (l.length : Int) ∧ May (x0 l).1 (x1 l).1 (x2 l).1 (x3 l).1 (x4 l).1 (x5 l).1 (x6 l).1 ∧ (x0 l).1 % 2 = place
                      · rw [if_pos d7, if_pos]
                        exact ⟨ck, d0.1, d1.1, d2.1, d3.1, d4.1, d5.1, d6.1, d7.1, d7.2.1, d7.2.2⟩
                      · rw [if_neg d7, if_neg]
                        rintro ⟨_, h⟩
                        exact d7 h.2.2.2.2.2.2.2
                    · rw [if_neg d6] at s6
                      rw [show (stookref16_Get.l0 (k + 8) place l ([] : List Int) 0 0) = stookref16_Get.l0 (k + 7 + 1) place l ([] : List Int) 0 ((0 : Nat) : Int) from rfl, s0, show k + 7 = k + 6 + 1 from rfl, s1, show k + 6 = k + 5 + 1 from rfl, s2, show k + 5 = k + 4 + 1 from rfl, s3, show k + 4 = k + 3 + 1 from rfl, s4, show k + 3 = k + 2 + 1 from rfl, s5, show k + 2 = k + 1 + 1 from rfl, s6]
                      rw [if_neg]
                      rintro ⟨_, h⟩
                      unfold Whole May at h
                      omega
                  · rw [if_neg d5] at s5
                    rw [show (stookref16_Get.l0 (k + 8) place l ([] : List Int) 0 0) = stookref16_Get.l0 (k + 7 + 1) place l ([] : List Int) 0 ((0 : Nat) : Int) from rfl, s0, show k + 7 = k + 6 + 1 from rfl, s1, show k + 6 = k + 5 + 1 from rfl, s2, show k + 5 = k + 4 + 1 from rfl, s3, show k + 4 = k + 3 + 1 from rfl, s4, show k + 3 = k + 2 + 1 from rfl, s5]
                    rw [if_neg]
                    rintro ⟨_, h⟩
                    unfold Whole May at h
                    omega
                · rw [if_neg d4] at s4
                  rw [show (stookref16_Get.l0 (k + 8) place l ([] : List Int) 0 0) = stookref16_Get.l0 (k + 7 + 1) place l ([] : List Int) 0 ((0 : Nat) : Int) from rfl, s0, show k + 7 = k + 6 + 1 from rfl, s1, show k + 6 = k + 5 + 1 from rfl, s2, show k + 5 = k + 4 + 1 from rfl, s3, show k + 4 = k + 3 + 1 from rfl, s4]
                  rw [if_neg]
                  rintro ⟨_, h⟩
                  unfold Whole May at h
                  omega
              · rw [if_neg d3] at s3
                rw [show (stookref16_Get.l0 (k + 8) place l ([] : List Int) 0 0) = stookref16_Get.l0 (k + 7 + 1) place l ([] : List Int) 0 ((0 : Nat) : Int) from rfl, s0, show k + 7 = k + 6 + 1 from rfl, s1, show k + 6 = k + 5 + 1 from rfl, s2, show k + 5 = k + 4 + 1 from rfl, s3]
                rw [if_neg]
                rintro ⟨_, h⟩
                unfold Whole May at h
                omega
            · rw [if_neg d2] at s2
              rw [show (stookref16_Get.l0 (k + 8) place l ([] : List Int) 0 0) = stookref16_Get.l0 (k + 7 + 1) place l ([] : List Int) 0 ((0 : Nat) : Int) from rfl, s0, show k + 7 = k + 6 + 1 from rfl, s1, show k + 6 = k + 5 + 1 from rfl, s2]
              rw [if_neg]
              rintro ⟨_, h⟩
              unfold Whole May at h
              omega
          · rw [if_neg d1] at s1
            rw [show (stookref16_Get.l0 (k + 8) place l ([] : List Int) 0 0) = stookref16_Get.l0 (k + 7 + 1) place l ([] : List Int) 0 ((0 : Nat) : Int) from rfl, s0, show k + 7 = k + 6 + 1 from rfl, s1]
            rw [if_neg]
            rintro ⟨_, h⟩
            unfold Whole May at h
            omega
        · rw [if_neg d0] at s0
          rw [show (stookref16_Get.l0 (k + 8) place l ([] : List Int) 0 0) = stookref16_Get.l0 (k + 7 + 1) place l ([] : List Int) 0 ((0 : Nat) : Int) from rfl, s0]
          rw [if_neg]
          rintro ⟨_, h⟩
          unfold Whole May at h
          omega
      · rw [if_neg ck, if_neg (fun h => ck h.1)]
    · rw [if_neg c1, if_pos c1]
end Go.Proofs.Ytkecgmoaojklbaa.Pure
