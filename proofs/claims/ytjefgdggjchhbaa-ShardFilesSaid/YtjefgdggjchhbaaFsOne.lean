/- An act of the law, all its ways in one: the disk has what the document says, behind it, too. Conditions: the disk and the bytes lie in memory as told. -/
import Derived.Test.YtjefgdggjchhbaaFsStepRead
import Derived.Test.YtjefgdggjchhbaaPShardThree
set_option linter.unusedVariables false
set_option linter.unusedSimpArgs false
namespace Go.Proofs.Ytjefgdggjchhbaa.Pure
open Go Go.RowKit Go.Proofs.Ytjefgdggjchhbaa.PAll Go.Proofs.Ytjefgdggjchhbaa.Crc Go.Proofs.Ytjefgdggjchhbaa.Leb Go.Proofs.YtjefgdggjchhbaaVW.PrintWords Go.Proofs.YtjefgdggjchhbaaVW.PrintLast
set_option maxRecDepth 100000
theorem refread_f (k : Nat) (b : List Int) (a : Int) (hb : Bytes b) (hl : b.length ≤ 140737488355327) (hk : 70000 < k) : stookref21_Read.f k b a = some (rgot a (fget b a)) := by
  unfold stookref21_Read.f rgot
  by_cases ha : a < 0
  · rw [if_pos ha, if_pos ha]
  rw [if_neg ha, if_neg ha, refframeget_f k b a hb hl hk, Option.bind_some]
  generalize fget b a = r
  obtain ⟨p, nx, q⟩ := r
  simp only
  by_cases hq : q = 0
  · rw [if_pos hq, if_neg (show ¬ (q ≠ 0) from fun h => h hq)]
    cases p with
    | nil => rw [if_pos (show (([] : List Int).length : Int) = 0 from rfl), if_pos (show ([] : List Int) = [] from rfl)]
    | cons x p =>
      have h1 : ¬ (((x :: p).length : Int) = 0) := by simp only [List.length_cons]; omega
      have h2 : (0 : Int) < ((x :: p).length : Int) := by simp only [List.length_cons]; omega
      have h3 : (1 : Int) ≤ ((x :: p).length : Int) := by simp only [List.length_cons]; omega
      rw [if_neg h1, if_pos h2, if_neg (show ¬ (x :: p = []) from fun h => by cases h)]
      by_cases hx : x = 114
      · rw [if_pos (show rd (x :: p) 0 = 114 from hx), if_pos h3, if_neg (show ¬ (rdOf (0 : Int) (x :: p) 0 ≠ 114) from fun h => h hx)]
        rfl
      · rw [if_neg (show ¬ rd (x :: p) 0 = 114 from hx), if_pos (show rdOf (0 : Int) (x :: p) 0 ≠ 114 from hx)]
  · rw [if_neg hq, if_pos hq]
theorem rgot_len (b : List Int) (a : Int) (hb : Bytes b) : (rgot a (fget b a)).1.length ≤ 65536 := by
  have h : (fget b a).1.length ≤ 65536 := by
    rcases fget_cases b a hb with ⟨e, _, h⟩ | ⟨p, m, n, _, h, _, hp, _⟩
    · rw [h]; simp
    · rw [h]; exact hp
  unfold rgot
  by_cases h1 : a < 0
  · rw [if_pos h1]; simp
  rw [if_neg h1]
  by_cases h2 : (fget b a).2.2 ≠ 0
  · rw [if_pos h2]; simp
  rw [if_neg h2]
  by_cases h3 : (fget b a).1 = []
  · rw [if_pos h3]; simp
  rw [if_neg h3]
  by_cases h4 : rdOf (0 : Int) (fget b a).1 0 ≠ 114
  · rw [if_pos h4]; simp
  · rw [if_neg h4]
    simp only [List.length_drop]
    omega
/-- What the layer's frames are: bytes, of which there are some. -/
theorem fput_some {p : List Int} (hp : Bytes p) : (fput p).2 = 0 → Bytes (fput p).1 ∧ 0 < (fput p).1.length := by
  intro h
  by_cases hl : p.length ≤ 65536
  · rw [fput_frm hl]
    exact ⟨frm_bytes hp, by show 0 < (frm p).length; rw [frm_len]; omega⟩
  · unfold fput at h
    rw [if_pos (by omega)] at h
    exact absurd h (by decide)
theorem bput_some {l : List Int} (hl : Bytes l) : (bput l).2 = 0 → Bytes (bput l).1 ∧ 0 < (bput l).1.length := by
  unfold bput
  by_cases h : l.length > 65535
  · rw [if_pos h]
    intro h'
    exact absurd h' (by decide)
  · rw [if_neg h]
    exact fput_some (byte_cons (by decide) hl)
theorem hput_some {n : Int} : (hput n).2 = 0 → Bytes (hput n).1 ∧ 0 < (hput n).1.length := by
  unfold hput
  by_cases h : n < 0 ∨ n > 2147483647
  · rw [if_pos h]
    intro h'
    exact absurd h' (by decide)
  · rw [if_neg h]
    exact fput_some (byte_cons (by decide) (bytes_enc _))
theorem sfoot_some {b : List Int} : (sfoot b).2 = 0 → Bytes (sfoot b).1 ∧ 0 < (sfoot b).1.length := by
  unfold sfoot
  by_cases h : (sscan b).2.2.2.2 ≠ 0 ∨ (sscan b).2.2.1 = true ∨ (sscan b).2.2.2.1 ≠ (b.length : Int)
  · rw [if_pos h]
    intro h'
    exact absurd h' (by decide)
  · rw [if_neg h]
    exact fput_some (foot_bytes _ _)
/-- What holds behind an act. -/
def After (w0 w' : World) (g : Nat) (room : Int) (m : Nat) (e : Ending) : Prop := ∃ v' F' m', e = .returned (.tuple #[v', .bool true]) ∧ At w0 w' g room F' m' v' ∧ (F'.length : Int) ≤ room ∧ Bytes F' ∧ m' ≤ m + 1
theorem place_index (n : Int) (l : Nat) (hl : 0 < l) : ∃ j : Nat, j < l ∧ (IntKind.u64.wrap n).tmod (l : Int) = (j : Int) := by
  have h0 : 0 ≤ IntKind.u64.wrap n := by rw [IntKind.wrap_u64]; exact Int.emod_nonneg _ (by decide)
  generalize IntKind.u64.wrap n = u at h0
  obtain ⟨u, rfl⟩ := Int.eq_ofNat_of_zero_le h0
  exact ⟨u % l, Nat.mod_lt _ hl, rfl⟩
theorem step_on {w0 w : World} {g : Nat} {room : Int} {F : List Int} {m : Nat} {v : Value} {do_ n : Int} {any : Bool} {Ad : Option Addr} {D : List Int} {cd : Nat} (h : At w0 w g room F m v) (hD : Kd.C (Kd.int .u8) w0 Ad D.length D) (hc : D.length ≤ cd) (hDb : Bytes D) (hFb : Bytes F) (hr : room ≤ 1048576) (hF : (F.length : Int) ≤ room) (hm : m ≤ 10000) :
    Calls Try.prog 28 #[.pointer (some ⟨g, 0, none⟩), v, .agg #[.int .i64 do_, .int .i64 n, .bool any, .slice Ad D.length cd], .int .i64 (room - (F.length : Int))] w fun e w' => After w0 w' g room m e := by
  obtain ⟨Af, cf, rfl⟩ := Kd.R_slice h.own
  have same : ∀ {w' : World}, At w0 w' g room F m (.slice Af F.length cf) → After w0 w' g room m (.returned (.tuple #[.slice Af F.length cf, .bool true])) := fun h => ⟨_, F, m, rfl, h, hF, hFb, Nat.le_succ m⟩
  have longer : ∀ {w' : World} {b : List Int} {m' : Nat} {v' : Value}, Bytes b → (b.length : Int) ≤ room - F.length → m' ≤ m + 1 → At w0 w' g room (F ++ b) m' v' → After w0 w' g room m (.returned (.tuple #[v', .bool true])) := fun hb hl hm' h => ⟨_, _, _, rfl, h, by rw [List.length_append]; omega, Bytes.append hFb hb, hm'⟩
  have hFl : F.length ≤ 1048576 := by omega
  by_cases d0 : do_ = 0
  · subst d0
    have b1 := body_f 5000000 (by omega) D hDb
    have b2 := refbody_f 5000000 (by omega) D hDb
    have hs := bput_some hDb
    generalize bput D = p at b1 b2 hs
    obtain ⟨b, q⟩ := p
    by_cases hq : q = 0
    · subst hq
      obtain ⟨hb, hl⟩ := hs rfl
      replace hl : 0 < b.length := hl
      replace hb : Bytes b := hb
      by_cases hf : room - F.length < b.length
      · refine (step_add_full h hD hc hr hF hm b1 b2 hl rfl hf).mono ?_
        rintro e w' ⟨rfl, h'⟩
        exact same h'
      · refine (step_add_ok h hD hc hr hF hm b1 b2 hl rfl (by omega)).mono ?_
        rintro e w' ⟨v', rfl, h'⟩
        exact longer hb (by omega) (Nat.le_refl _) h'
    · refine (step_add_bad h hD hc hr hF hm b1 b2 hq).mono ?_
      rintro e w' ⟨rfl, h'⟩
      exact same h'
  by_cases d1 : do_ = 1
  · subst d1
    have b1 := sfoot_f 5000000 F hFb (by omega) (by omega)
    have b2 := refsfoot_f 5000000 F hFb (by omega) (by omega)
    have hs := sfoot_some (b := F)
    generalize sfoot F = p at b1 b2 hs
    obtain ⟨b, q⟩ := p
    by_cases hq : q = 0
    · subst hq
      obtain ⟨hb, hl⟩ := hs rfl
      replace hl : 0 < b.length := hl
      replace hb : Bytes b := hb
      by_cases hf : room - F.length < b.length
      · refine (step_seal_full h hD hc hr hF hm b1 b2 hl rfl hf).mono ?_
        rintro e w' ⟨rfl, h'⟩
        exact same h'
      · refine (step_seal_ok h hD hc hr hF hm b1 b2 hl rfl (by omega)).mono ?_
        rintro e w' ⟨v', rfl, h'⟩
        exact longer hb (by omega) (Nat.zero_le _) h'
    · refine (step_seal_bad h hD hc hr hF hm b1 b2 hq).mono ?_
      rintro e w' ⟨rfl, h'⟩
      exact same h'
  by_cases d2 : do_ = 2
  · subst d2
    have s1 := refscan_f 5000000 F hFb (by omega) (by omega)
    have hpl := sscan_places F hFb
    generalize sscan F = p at s1 hpl
    obtain ⟨r1, ps, r3, r4, r5⟩ := p
    have tail : ∀ at_ : Int, stookref21_Read.f 5000000 F at_ = some ((rgot at_ (fget F at_)).1, (rgot at_ (fget F at_)).2) ∧ frame_Get.f 5000000 F at_ = some (fget F at_) ∧ stookref00_Same.f 5000000 (rgot at_ (fget F at_)).1 (rgot at_ (fget F at_)).1 = some true := fun at_ =>
      ⟨refread_f _ F at_ hFb (by omega) (by omega), frameget_f _ F at_ hFb (by omega) (by omega), same_self _ _ (by have := rgot_len F at_ hFb; omega) (by have := rgot_len F at_ hFb; omega)⟩
    cases any
    · by_cases h5 : r5 = 0
      · by_cases hp : ps = []
        · obtain ⟨t1, t2, t3⟩ := tail n
          refine (step_read_none h hD hc hr hF hm s1 t2 t1 rfl t3 h5 hp).mono ?_
          rintro e w' ⟨rfl, h'⟩
          exact same h'
        · have hl : 0 < ps.length := List.length_pos_iff.2 hp
          obtain ⟨j, hj, hix⟩ := place_index n ps.length hl
          obtain ⟨t1, t2, t3⟩ := tail (rdOf (0 : Int) ps j)
          refine (step_read_place h hD hc hr hF hm s1 t2 t1 rfl t3 h5 hl hj rfl (by have : ps.length ≤ F.length := hpl; omega) hix).mono ?_
          rintro e w' ⟨rfl, h'⟩
          exact same h'
      · obtain ⟨t1, t2, t3⟩ := tail n
        refine (step_read_bad h hD hc hr hF hm s1 t2 t1 rfl t3 h5).mono ?_
        rintro e w' ⟨rfl, h'⟩
        exact same h'
    · obtain ⟨t1, t2, t3⟩ := tail n
      refine (step_read_any h hD hc hr hF hm s1 t2 t1 rfl t3).mono ?_
      rintro e w' ⟨rfl, h'⟩
      exact same h'
  by_cases d3 : do_ = 3
  · subst d3
    by_cases hn : 0 < D.length ∧ room - F.length < D.length
    · refine (step_bytes_full (k := 0) h hD hc hr hF hm hn).mono ?_
      rintro e w' ⟨rfl, h'⟩
      exact same h'
    · refine (step_bytes_ok (k := 0) h hD hc hr hF hm hn).mono ?_
      rintro e w' ⟨v', rfl, h'⟩
      refine longer hDb ?_ (Nat.le_refl _) h'
      by_cases h0 : 0 < D.length
      · have : ¬ (room - F.length < D.length) := fun h' => hn ⟨h0, h'⟩
        omega
      · omega
  · refine (step_other (k := 0) h hD hc hr hF hm d0 d1 d2 d3).mono ?_
    rintro e w' ⟨rfl, h'⟩
    exact same h'
end Go.Proofs.Ytjefgdggjchhbaa.Pure
