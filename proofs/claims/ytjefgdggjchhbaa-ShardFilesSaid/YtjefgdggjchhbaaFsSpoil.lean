/- stookref00.Spoil at what Read hands out; shard.Read, all its ways in one. Conditions: the memory lies as told. -/
import Derived.Test.YtjefgdggjchhbaaFsShard
set_option linter.unusedVariables false
set_option linter.unusedSimpArgs false
namespace Go.Proofs.Ytjefgdggjchhbaa.PAll
open Go.RowKit Go.Proofs.YtjefgdggjchhbaaVW.PrintWords Go.Proofs.YtjefgdggjchhbaaVW.PrintLast Go.Proofs.YtjefgdggjchhbaaVW.PrintMore
attribute [local go_sem] max2_int min2_int max_two min_two max_three min_three max_four min_four
set_option maxHeartbeats 8000000
set_option maxRecDepth 100000
/-- Numbers in a row of a block, that may be written. -/
def Rm (w : World) (b off n : Nat) : Prop := ∀ j, j < n → (∃ x, w.cell? ⟨b, off + j, none⟩ = some (.int .u8 x)) ∧ w.frozen? ⟨b, off + j, none⟩ = false
theorem Rm.set {w : World} {b off n : Nat} (h : Rm w b off n) (j : Nat) (x : Int) : Rm (w.setCell ⟨b, off + j, none⟩ (.int .u8 x)) b off n := by
  intro i hi
  obtain ⟨⟨y, hy⟩, hf⟩ := h i hi
  refine ⟨?_, by rw [World.frozen?_setCell]; exact hf⟩
  by_cases hij : i = j
  · subst hij
    exact ⟨x, World.cell?_setCell_same _ _ _ hy⟩
  · exact ⟨y, by rw [World.cell?_setCell_other _ _ _ _ (by intro h; simp at h)]; exact hy⟩
theorem spoil_rm (b off n : Nat) (w : World) (hR : Rm w b off n) (hn : n ≤ 9223372036854775807) :
    Calls Try.prog 49 #[.slice (some ⟨b, off, none⟩) n n, .int .u8 3] w fun e w' => e = .returned (.tuple #[]) ∧ Below b w w' := by
  have q1 : (0 : Int) ≤ n := by omega
  have q2 : (n : Int) ≤ n := by omega
  have HR := Aside0.mk hR
  clear hR
  go_enter Try.func49, Try.ntmps49
  go_wp2
  go_loopw [4] (fun i wr => ∃ j : Nat, j ≤ n ∧ i = .int .i64 j ∧ Aside0 (Rm wr b off n) ∧ Aside0 (Below b w wr)) (fun i _ => n - (intOf i).toNat)
  case atStart => exact ⟨0, Nat.zero_le _, rfl, HR, ⟨Below.refl _ _⟩⟩
  case round =>
    obtain ⟨j, hj, rfl, hM, hB⟩ := hrel
    by_cases hjl : j < n
    · obtain ⟨⟨x, cj⟩, fj⟩ := hM.out j hjl
      have q4 : (0 : Int) ≤ j := by omega
      have q5 : (j : Int) < n := by omega
      go_wp2
      go_roundw
      case rel => exact ⟨j + 1, by omega, by first | rfl | go_num, ⟨hM.out.set j _⟩, ⟨hB.out.setCell (p := ⟨b, off + j, none⟩) (Nat.le_refl _) _⟩⟩
      case measure => simp [intOf]; omega
    · have q9 : ¬ ((j : Int) < n) := by omega
      go_wp2
      go_end0
      exact ⟨rfl, hB.out⟩
theorem spoil_nil (w : World) : Calls Try.prog 49 #[.slice none 0 0, .int .u8 3] w fun e w' => e = .returned (.tuple #[]) ∧ w' = w := by
  go_enter Try.func49, Try.ntmps49
  go_wp2
  refine wp_loop_rounds 1 ?_
  rw [rounds_succ]
  go_wp2
  go_end0
  exact ⟨rfl, rfl⟩
theorem spoil_sp {w : World} {base : Nat} {v : Value} {xs : List Int} (h : Sp w base v xs) : Calls Try.prog 49 #[v, .int .u8 3] w fun e w' => e = .returned (.tuple #[]) ∧ Below base w w' := by
  rcases h with ⟨rfl, rfl⟩ | ⟨b, off, rfl, hb, hl, hq, hc⟩
  · refine (spoil_nil w).mono ?_
    rintro e w' ⟨rfl, rfl⟩
    exact ⟨rfl, Below.refl _ _⟩
  · refine (spoil_rm b off xs.length w (fun j hj => ⟨⟨_, (hc j hj).1⟩, (hc j hj).2⟩) hq).mono ?_
    rintro e w' ⟨rfl, h⟩
    exact ⟨rfl, h.mono hb⟩
theorem Sp.below {w w' : World} {base : Nat} {v : Value} {xs : List Int} (h : Sp w base v xs) (hb : Below w.heap.size w w') : Sp w' base v xs := by
  rcases h with h | ⟨b, off, rfl, hb', hl, hq, hc⟩
  · exact .inl h
  · exact .inr ⟨b, off, rfl, hb', Nat.lt_of_lt_of_le hl hb.size, hq, fun j hj => ⟨(hb.cell (p := ⟨b, off + j, none⟩) hl).trans (hc j hj).1, (hb.frozen (p := ⟨b, off + j, none⟩) hl).trans (hc j hj).2⟩⟩
/-- What Read tells of what frame.Get tells. -/
def rgot (a : Int) (r : List Int × Int × Int) : List Int × Int := if a < 0 then ([], 2) else if r.2.2 ≠ 0 then ([], r.2.2) else if r.1 = [] then ([], 5) else if rdOf (0 : Int) r.1 0 ≠ 114 then ([], 5) else (r.1.drop 1, 0)
theorem sread_any {w : World} {B g : Nat} {room : Int} {F : List Int} {m k : Nat} {at_ : Int} (h : Disk w B g room F m) (hB : B ≤ w.heap.size) (hF : F.length ≤ 1048576) {r : List Int × Int × Int} (hg : frame_Get.f k F at_ = some r) :
    Calls Try.prog 24 #[.pointer (some ⟨g, 0, none⟩), .string nameS, .int .i64 at_] w fun e w' => ∃ v, e = .returned (.tuple #[v, .int .i64 (rgot at_ r).2]) ∧ Sp w' w.heap.size v (rgot at_ r).1 ∧ Below w.heap.size w w' := by
  obtain ⟨p, nx, q⟩ := r
  unfold rgot
  by_cases ha : at_ < 0
  · rw [if_pos ha]
    refine (sread_neg (k := k) h hB hF ha).mono ?_
    rintro e w' ⟨rfl, hb⟩
    exact ⟨_, rfl, .inl ⟨rfl, rfl⟩, hb⟩
  rw [if_neg ha]
  by_cases hq : q ≠ 0
  · rw [if_pos hq]
    refine (sread_err h hB hF ha hg hq).mono ?_
    rintro e w' ⟨rfl, hb⟩
    exact ⟨_, rfl, .inl ⟨rfl, rfl⟩, hb⟩
  rw [if_neg hq]
  obtain rfl : q = 0 := by omega
  by_cases hp : p = []
  · rw [if_pos hp]
    subst hp
    refine (sread_nil h hB hF ha hg).mono ?_
    rintro e w' ⟨rfl, hb⟩
    exact ⟨_, rfl, .inl ⟨rfl, rfl⟩, hb⟩
  rw [if_neg hp]
  have hl : 0 < p.length := List.length_pos_iff.2 hp
  by_cases hx : rdOf (0 : Int) p 0 ≠ 114
  · rw [if_pos hx]
    refine (sread_other h hB hF ha hg hl rfl hx).mono ?_
    rintro e w' ⟨rfl, hb⟩
    exact ⟨_, rfl, .inl ⟨rfl, rfl⟩, hb⟩
  · rw [if_neg hx]
    exact sread_ok h hB hF ha hg hl (by omega) rfl
end Go.Proofs.Ytjefgdggjchhbaa.PAll
