/- stooklaw21_ShardCut: out of the printed walk, for the answer true alone. -/
import Derived.Test.YtjefgdggjchhbaaPAllx13
import Derived.Test.YtjefgdggjchhbaaPAllx2
import Derived.Test.YtjefgdggjchhbaaPAllx4
import Derived.Test.YtjefgdggjchhbaaPAllx8
import Derived.Test.YtjefgdggjchhbaaPAllx9
import Derived.Test.YtjefgdggjchhbaaLivesAny
namespace Go.Proofs.Ytjefgdggjchhbaa.PAll
open Go.RowKit Go.Proofs.YtjefgdggjchhbaaVW.PrintWords Go.Proofs.YtjefgdggjchhbaaVW.PrintLast Go.Proofs.YtjefgdggjchhbaaVW.PrintMore
attribute [local go_sem] max2_int min2_int max_two min_two max_three min_three max_four min_four   -- for this text's walks alone
set_option linter.unusedVariables false
set_option linter.unusedSimpArgs false

/-! ### stooklaw21_ShardCut: function 5 -/
mutual
def stooklaw21_ShardCut.l0 : Nat → Int → List (List Int) → Int → List Int → List Int → Int → List Int → Int → Option (Bool)
  | 0, _, _, _, _, _, _, _, _ => none
  | k + 1, x0, x1, x2, x3, x9, x11, x12, x13 => if x13 < (x1.length : Int) then (if x13 < 20 then (if 0 ≤ x13 then (stooklaw21_ShardCut.j1 k x0 x1 x2 x3 x9 x11 x12 x13 (decide (((rd_L3 x1 x13).length : Int) ≤ 300))) else (none)) else (stooklaw21_ShardCut.j1 k x0 x1 x2 x3 x9 x11 x12 x13 false)) else (stooklaw21_ShardCut.j1 k x0 x1 x2 x3 x9 x11 x12 x13 false)
def stooklaw21_ShardCut.j1 : Nat → Int → List (List Int) → Int → List Int → List Int → Int → List Int → Int → Bool → Option (Bool)
  | 0, _, _, _, _, _, _, _, _, _ => none
  | k + 1, x0, x1, x2, x3, x9, x11, x12, x13, x47 => if x47 = true then (if 0 ≤ x13 then (if x13 < (x1.length : Int) then ((shard_Body.f k (rd_L3 x1 x13)).bind fun bt349 => (if bt349.2 = 0 then ((stookref03_Size.f k (wrap64 (1 + ((rd_L3 x1 x13).length : Int)))).bind fun t354 => (if (bt349.1.length : Int) = t354 then (if x9.length + bt349.1.length < 140737488355328 then ((some (x9 ++ bt349.1 : List Int)).bind fun y355 => (if x12.length < 17592186044416 then (stooklaw21_ShardCut.l0 k x0 x1 x2 x3 y355 x11 (x12 ++ [(y355.length : Int)]) (wrap64 (x13 + 1))) else (none))) else (none)) else (some false))) else (some false))) else (none)) else (none)) else (if x2 < 0 then (stooklaw21_ShardCut.j2 k x0 (wrap64 (-(wrap64 (x2 + 1)))) x3 x9 x11 x12) else (stooklaw21_ShardCut.j2 k x0 x2 x3 x9 x11 x12))
def stooklaw21_ShardCut.j2 : Nat → Int → Int → List Int → List Int → Int → List Int → Option (Bool)
  | 0, _, _, _, _, _, _ => none
  | k + 1, x0, x2, x3, x9, x11, x12 => if (wrap64 ((x9.length : Int) + 1)) = 0 then (none) else (if 0 ≤ (Int.tmod x2 (wrap64 ((x9.length : Int) + 1))) then (if (Int.tmod x2 (wrap64 ((x9.length : Int) + 1))) ≤ (x9.length : Int) then ((shard_Scan.f k (x9.take ((Int.tmod x2 (wrap64 ((x9.length : Int) + 1))) : Int).toNat)).bind fun bt365 => (stooklaw21_ShardCut.l1 k x0 x3 x9 bt365.2.2.2.2 x11 x12 (Int.tmod x2 (wrap64 ((x9.length : Int) + 1))) 0 bt365.1 bt365.2.1 bt365.2.2.1 bt365.2.2.2.1)) else (none)) else (none))
def stooklaw21_ShardCut.j4 : Nat → Int → List Int → List Int → Int → Int → List Int → Int → Int → Int → List Int → Bool → Int → Option (Bool)
  | 0, _, _, _, _, _, _, _, _, _, _, _, _ => none
  | k + 1, x0, x3, x9, x10, x11, x12, x16, x18, x373000, x373001, x373002, x373003 => if ((x10 == 0) != (decide (x16 ≥ x11))) = true then (stooklaw21_ShardCut.j5 k x3 x9 x12 true) else (if x10 = 0 then (if (x373001.length : Int) = x18 then (if x373002 = true then (stooklaw21_ShardCut.j5 k x3 x9 x12 true) else (stooklaw21_ShardCut.j5 k x3 x9 x12 (x373000 != x0))) else (stooklaw21_ShardCut.j5 k x3 x9 x12 true)) else (stooklaw21_ShardCut.j5 k x3 x9 x12 false))
def stooklaw21_ShardCut.j5 : Nat → List Int → List Int → List Int → Bool → Option (Bool)
  | 0, _, _, _, _ => none
  | k + 1, x3, x9, x12, x137 => if x137 = true then (some false) else ((shard_Foot.f k x9).bind fun bt374 => (if bt374.2 = 0 then (if x9.length + bt374.1.length < 140737488355328 then ((some (x9 ++ bt374.1 : List Int)).bind fun y378 => ((shard_Scan.f k y378).bind fun bt381 => ((stookref00_Copy.f y378).bind fun t388 => (if t388.length + x3.length < 140737488355328 then ((shard_Scan.f k (t388 ++ x3)).bind fun bt394 => (if bt381.2.2.2.2 = 0 then (if bt394.2.2.2.2 = 0 then ((stookref21_Same.f k bt381.1 bt381.2.1 bt381.2.2.1 bt381.2.2.2.1 bt394.1 bt394.2.1 bt394.2.2.1 bt394.2.2.2.1).bind fun t402 => (if t402 = true then (if bt381.2.2.1 = true then (if bt381.2.2.2.1 = (y378.length : Int) then (if (bt381.2.1.length : Int) = (x12.length : Int) then ((stooklaw21_lives.f k).bind fun t403 => (some t403)) else (some false)) else (some false)) else (some false)) else (some false))) else (some false)) else (some false))) else (none))))) else (none)) else (some false)))
def stooklaw21_ShardCut.l1 : Nat → Int → List Int → List Int → Int → Int → List Int → Int → Int → Int → List Int → Bool → Int → Option (Bool)
  | 0, _, _, _, _, _, _, _, _, _, _, _, _ => none
  | k + 1, x0, x3, x9, x10, x11, x12, x16, x18, x373000, x373001, x373002, x373003 => if x18 < (x12.length : Int) then (if 0 ≤ x18 then (if (rd x12 x18) ≤ x16 then (stooklaw21_ShardCut.l1 k x0 x3 x9 x10 x11 x12 x16 (wrap64 (x18 + 1)) x373000 x373001 x373002 x373003) else (stooklaw21_ShardCut.j4 k x0 x3 x9 x10 x11 x12 x16 x18 x373000 x373001 x373002 x373003)) else (none)) else (stooklaw21_ShardCut.j4 k x0 x3 x9 x10 x11 x12 x16 x18 x373000 x373001 x373002 x373003)
end
def stooklaw21_ShardCut.f (k : Nat) (a0 : Int) (l1 : List (List Int)) (a2 : Int) (l3 : List Int) : Option (Bool) := (shard_Head.f k a0).bind fun bt342 => (if bt342.2 = 0 then (stooklaw21_ShardCut.l0 k a0 l1 a2 l3 bt342.1 (bt342.1.length : Int) ([] : List Int) 0) else ((stooklaw21_lives.f k).bind fun t346 => (some t346)))
theorem stooklaw21_ShardCut.mono_l : ∀ k, (∀ y0 y1 y2 y3 y4 y5 y6 y7, LeO (stooklaw21_ShardCut.l0 k y0 y1 y2 y3 y4 y5 y6 y7) (stooklaw21_ShardCut.l0 (k + 1) y0 y1 y2 y3 y4 y5 y6 y7)) ∧ (∀ y0 y1 y2 y3 y4 y5 y6 y7 y8, LeO (stooklaw21_ShardCut.j1 k y0 y1 y2 y3 y4 y5 y6 y7 y8) (stooklaw21_ShardCut.j1 (k + 1) y0 y1 y2 y3 y4 y5 y6 y7 y8)) ∧ (∀ y0 y1 y2 y3 y4 y5, LeO (stooklaw21_ShardCut.j2 k y0 y1 y2 y3 y4 y5) (stooklaw21_ShardCut.j2 (k + 1) y0 y1 y2 y3 y4 y5)) ∧ (∀ y0 y1 y2 y3 y4 y5 y6 y7 y8 y9 y10 y11, LeO (stooklaw21_ShardCut.j4 k y0 y1 y2 y3 y4 y5 y6 y7 y8 y9 y10 y11) (stooklaw21_ShardCut.j4 (k + 1) y0 y1 y2 y3 y4 y5 y6 y7 y8 y9 y10 y11)) ∧ (∀ y0 y1 y2 y3, LeO (stooklaw21_ShardCut.j5 k y0 y1 y2 y3) (stooklaw21_ShardCut.j5 (k + 1) y0 y1 y2 y3)) ∧ (∀ y0 y1 y2 y3 y4 y5 y6 y7 y8 y9 y10 y11, LeO (stooklaw21_ShardCut.l1 k y0 y1 y2 y3 y4 y5 y6 y7 y8 y9 y10 y11) (stooklaw21_ShardCut.l1 (k + 1) y0 y1 y2 y3 y4 y5 y6 y7 y8 y9 y10 y11))
  | 0 => ⟨fun _ _ _ _ _ _ _ _ r h => by simp [stooklaw21_ShardCut.l0] at h, fun _ _ _ _ _ _ _ _ _ r h => by simp [stooklaw21_ShardCut.j1] at h, fun _ _ _ _ _ _ r h => by simp [stooklaw21_ShardCut.j2] at h, fun _ _ _ _ _ _ _ _ _ _ _ _ r h => by simp [stooklaw21_ShardCut.j4] at h, fun _ _ _ _ r h => by simp [stooklaw21_ShardCut.j5] at h, fun _ _ _ _ _ _ _ _ _ _ _ _ r h => by simp [stooklaw21_ShardCut.l1] at h⟩
  | k + 1 => by
    obtain ⟨ih0, ih1, ih2, ih3, ih4, ih5⟩ := stooklaw21_ShardCut.mono_l k
    refine ⟨?_, ?_, ?_, ?_, ?_, ?_⟩
    · intro y0 y1 y2 y3 y4 y5 y6 y7
      unfold stooklaw21_ShardCut.l0
      repeat' first
      | (with_reducible exact ih0 _ _ _ _ _ _ _ _)
      | (with_reducible exact ih1 _ _ _ _ _ _ _ _ _)
      | (with_reducible exact ih2 _ _ _ _ _ _)
      | (with_reducible exact ih3 _ _ _ _ _ _ _ _ _ _ _ _)
      | (with_reducible exact ih4 _ _ _ _)
      | (with_reducible exact ih5 _ _ _ _ _ _ _ _ _ _ _ _)
      | (with_reducible exact shard_Body.mono _ _)
      | (with_reducible exact shard_Foot.mono _ _)
      | (with_reducible exact shard_Head.mono _ _)
      | (with_reducible exact shard_Scan.mono _ _)
      | (with_reducible exact stooklaw21_lives.mono _)
      | (with_reducible exact stookref03_Size.mono _ _)
      | (with_reducible exact stookref21_Same.mono _ _ _ _ _ _ _ _ _)
      | (with_reducible exact LeO.refl _)
      | (with_reducible exact LeO.none _)
      | (with_reducible refine LeO.ite ?_ ?_)
      | (with_reducible refine LeO.bind ?_ (fun _ => ?_))
      | exact ih0 _ _ _ _ _ _ _ _
      | exact ih1 _ _ _ _ _ _ _ _ _
      | exact ih2 _ _ _ _ _ _
      | exact ih3 _ _ _ _ _ _ _ _ _ _ _ _
      | exact ih4 _ _ _ _
      | exact ih5 _ _ _ _ _ _ _ _ _ _ _ _
      | exact shard_Body.mono _ _
      | exact shard_Foot.mono _ _
      | exact shard_Head.mono _ _
      | exact shard_Scan.mono _ _
      | exact stooklaw21_lives.mono _
      | exact stookref03_Size.mono _ _
      | exact stookref21_Same.mono _ _ _ _ _ _ _ _ _
      | exact LeO.none _
      | refine LeO.ite ?_ ?_
      | refine LeO.bind ?_ (fun _ => ?_)
    · intro y0 y1 y2 y3 y4 y5 y6 y7 y8
      unfold stooklaw21_ShardCut.j1
      repeat' first
      | (with_reducible exact ih0 _ _ _ _ _ _ _ _)
      | (with_reducible exact ih1 _ _ _ _ _ _ _ _ _)
      | (with_reducible exact ih2 _ _ _ _ _ _)
      | (with_reducible exact ih3 _ _ _ _ _ _ _ _ _ _ _ _)
      | (with_reducible exact ih4 _ _ _ _)
      | (with_reducible exact ih5 _ _ _ _ _ _ _ _ _ _ _ _)
      | (with_reducible exact shard_Body.mono _ _)
      | (with_reducible exact shard_Foot.mono _ _)
      | (with_reducible exact shard_Head.mono _ _)
      | (with_reducible exact shard_Scan.mono _ _)
      | (with_reducible exact stooklaw21_lives.mono _)
      | (with_reducible exact stookref03_Size.mono _ _)
      | (with_reducible exact stookref21_Same.mono _ _ _ _ _ _ _ _ _)
      | (with_reducible exact LeO.refl _)
      | (with_reducible exact LeO.none _)
      | (with_reducible refine LeO.ite ?_ ?_)
      | (with_reducible refine LeO.bind ?_ (fun _ => ?_))
      | exact ih0 _ _ _ _ _ _ _ _
      | exact ih1 _ _ _ _ _ _ _ _ _
      | exact ih2 _ _ _ _ _ _
      | exact ih3 _ _ _ _ _ _ _ _ _ _ _ _
      | exact ih4 _ _ _ _
      | exact ih5 _ _ _ _ _ _ _ _ _ _ _ _
      | exact shard_Body.mono _ _
      | exact shard_Foot.mono _ _
      | exact shard_Head.mono _ _
      | exact shard_Scan.mono _ _
      | exact stooklaw21_lives.mono _
      | exact stookref03_Size.mono _ _
      | exact stookref21_Same.mono _ _ _ _ _ _ _ _ _
      | exact LeO.none _
      | refine LeO.ite ?_ ?_
      | refine LeO.bind ?_ (fun _ => ?_)
    · intro y0 y1 y2 y3 y4 y5
      unfold stooklaw21_ShardCut.j2
      repeat' first
      | (with_reducible exact ih0 _ _ _ _ _ _ _ _)
      | (with_reducible exact ih1 _ _ _ _ _ _ _ _ _)
      | (with_reducible exact ih2 _ _ _ _ _ _)
      | (with_reducible exact ih3 _ _ _ _ _ _ _ _ _ _ _ _)
      | (with_reducible exact ih4 _ _ _ _)
      | (with_reducible exact ih5 _ _ _ _ _ _ _ _ _ _ _ _)
      | (with_reducible exact shard_Body.mono _ _)
      | (with_reducible exact shard_Foot.mono _ _)
      | (with_reducible exact shard_Head.mono _ _)
      | (with_reducible exact shard_Scan.mono _ _)
      | (with_reducible exact stooklaw21_lives.mono _)
      | (with_reducible exact stookref03_Size.mono _ _)
      | (with_reducible exact stookref21_Same.mono _ _ _ _ _ _ _ _ _)
      | (with_reducible exact LeO.refl _)
      | (with_reducible exact LeO.none _)
      | (with_reducible refine LeO.ite ?_ ?_)
      | (with_reducible refine LeO.bind ?_ (fun _ => ?_))
      | exact ih0 _ _ _ _ _ _ _ _
      | exact ih1 _ _ _ _ _ _ _ _ _
      | exact ih2 _ _ _ _ _ _
      | exact ih3 _ _ _ _ _ _ _ _ _ _ _ _
      | exact ih4 _ _ _ _
      | exact ih5 _ _ _ _ _ _ _ _ _ _ _ _
      | exact shard_Body.mono _ _
      | exact shard_Foot.mono _ _
      | exact shard_Head.mono _ _
      | exact shard_Scan.mono _ _
      | exact stooklaw21_lives.mono _
      | exact stookref03_Size.mono _ _
      | exact stookref21_Same.mono _ _ _ _ _ _ _ _ _
      | exact LeO.none _
      | refine LeO.ite ?_ ?_
      | refine LeO.bind ?_ (fun _ => ?_)
    · intro y0 y1 y2 y3 y4 y5 y6 y7 y8 y9 y10 y11
      unfold stooklaw21_ShardCut.j4
      repeat' first
      | (with_reducible exact ih0 _ _ _ _ _ _ _ _)
      | (with_reducible exact ih1 _ _ _ _ _ _ _ _ _)
      | (with_reducible exact ih2 _ _ _ _ _ _)
      | (with_reducible exact ih3 _ _ _ _ _ _ _ _ _ _ _ _)
      | (with_reducible exact ih4 _ _ _ _)
      | (with_reducible exact ih5 _ _ _ _ _ _ _ _ _ _ _ _)
      | (with_reducible exact shard_Body.mono _ _)
      | (with_reducible exact shard_Foot.mono _ _)
      | (with_reducible exact shard_Head.mono _ _)
      | (with_reducible exact shard_Scan.mono _ _)
      | (with_reducible exact stooklaw21_lives.mono _)
      | (with_reducible exact stookref03_Size.mono _ _)
      | (with_reducible exact stookref21_Same.mono _ _ _ _ _ _ _ _ _)
      | (with_reducible exact LeO.refl _)
      | (with_reducible exact LeO.none _)
      | (with_reducible refine LeO.ite ?_ ?_)
      | (with_reducible refine LeO.bind ?_ (fun _ => ?_))
      | exact ih0 _ _ _ _ _ _ _ _
      | exact ih1 _ _ _ _ _ _ _ _ _
      | exact ih2 _ _ _ _ _ _
      | exact ih3 _ _ _ _ _ _ _ _ _ _ _ _
      | exact ih4 _ _ _ _
      | exact ih5 _ _ _ _ _ _ _ _ _ _ _ _
      | exact shard_Body.mono _ _
      | exact shard_Foot.mono _ _
      | exact shard_Head.mono _ _
      | exact shard_Scan.mono _ _
      | exact stooklaw21_lives.mono _
      | exact stookref03_Size.mono _ _
      | exact stookref21_Same.mono _ _ _ _ _ _ _ _ _
      | exact LeO.none _
      | refine LeO.ite ?_ ?_
      | refine LeO.bind ?_ (fun _ => ?_)
    · intro y0 y1 y2 y3
      unfold stooklaw21_ShardCut.j5
      repeat' first
      | (with_reducible exact ih0 _ _ _ _ _ _ _ _)
      | (with_reducible exact ih1 _ _ _ _ _ _ _ _ _)
      | (with_reducible exact ih2 _ _ _ _ _ _)
      | (with_reducible exact ih3 _ _ _ _ _ _ _ _ _ _ _ _)
      | (with_reducible exact ih4 _ _ _ _)
      | (with_reducible exact ih5 _ _ _ _ _ _ _ _ _ _ _ _)
      | (with_reducible exact shard_Body.mono _ _)
      | (with_reducible exact shard_Foot.mono _ _)
      | (with_reducible exact shard_Head.mono _ _)
      | (with_reducible exact shard_Scan.mono _ _)
      | (with_reducible exact stooklaw21_lives.mono _)
      | (with_reducible exact stookref03_Size.mono _ _)
      | (with_reducible exact stookref21_Same.mono _ _ _ _ _ _ _ _ _)
      | (with_reducible exact LeO.refl _)
      | (with_reducible exact LeO.none _)
      | (with_reducible refine LeO.ite ?_ ?_)
      | (with_reducible refine LeO.bind ?_ (fun _ => ?_))
      | exact ih0 _ _ _ _ _ _ _ _
      | exact ih1 _ _ _ _ _ _ _ _ _
      | exact ih2 _ _ _ _ _ _
      | exact ih3 _ _ _ _ _ _ _ _ _ _ _ _
      | exact ih4 _ _ _ _
      | exact ih5 _ _ _ _ _ _ _ _ _ _ _ _
      | exact shard_Body.mono _ _
      | exact shard_Foot.mono _ _
      | exact shard_Head.mono _ _
      | exact shard_Scan.mono _ _
      | exact stooklaw21_lives.mono _
      | exact stookref03_Size.mono _ _
      | exact stookref21_Same.mono _ _ _ _ _ _ _ _ _
      | exact LeO.none _
      | refine LeO.ite ?_ ?_
      | refine LeO.bind ?_ (fun _ => ?_)
    · intro y0 y1 y2 y3 y4 y5 y6 y7 y8 y9 y10 y11
      unfold stooklaw21_ShardCut.l1
      repeat' first
      | (with_reducible exact ih0 _ _ _ _ _ _ _ _)
      | (with_reducible exact ih1 _ _ _ _ _ _ _ _ _)
      | (with_reducible exact ih2 _ _ _ _ _ _)
      | (with_reducible exact ih3 _ _ _ _ _ _ _ _ _ _ _ _)
      | (with_reducible exact ih4 _ _ _ _)
      | (with_reducible exact ih5 _ _ _ _ _ _ _ _ _ _ _ _)
      | (with_reducible exact shard_Body.mono _ _)
      | (with_reducible exact shard_Foot.mono _ _)
      | (with_reducible exact shard_Head.mono _ _)
      | (with_reducible exact shard_Scan.mono _ _)
      | (with_reducible exact stooklaw21_lives.mono _)
      | (with_reducible exact stookref03_Size.mono _ _)
      | (with_reducible exact stookref21_Same.mono _ _ _ _ _ _ _ _ _)
      | (with_reducible exact LeO.refl _)
      | (with_reducible exact LeO.none _)
      | (with_reducible refine LeO.ite ?_ ?_)
      | (with_reducible refine LeO.bind ?_ (fun _ => ?_))
      | exact ih0 _ _ _ _ _ _ _ _
      | exact ih1 _ _ _ _ _ _ _ _ _
      | exact ih2 _ _ _ _ _ _
      | exact ih3 _ _ _ _ _ _ _ _ _ _ _ _
      | exact ih4 _ _ _ _
      | exact ih5 _ _ _ _ _ _ _ _ _ _ _ _
      | exact shard_Body.mono _ _
      | exact shard_Foot.mono _ _
      | exact shard_Head.mono _ _
      | exact shard_Scan.mono _ _
      | exact stooklaw21_lives.mono _
      | exact stookref03_Size.mono _ _
      | exact stookref21_Same.mono _ _ _ _ _ _ _ _ _
      | exact LeO.none _
      | refine LeO.ite ?_ ?_
      | refine LeO.bind ?_ (fun _ => ?_)
theorem stooklaw21_ShardCut.mono : ∀ a0 a1 a2 a3 k, LeO (stooklaw21_ShardCut.f k a0 a1 a2 a3) (stooklaw21_ShardCut.f (k + 1) a0 a1 a2 a3) := by
  intro a0 a1 a2 a3 k
  obtain ⟨ih0, ih1, ih2, ih3, ih4, ih5⟩ := stooklaw21_ShardCut.mono_l k
  unfold stooklaw21_ShardCut.f
  repeat' first
      | (with_reducible exact ih0 _ _ _ _ _ _ _ _)
      | (with_reducible exact ih1 _ _ _ _ _ _ _ _ _)
      | (with_reducible exact ih2 _ _ _ _ _ _)
      | (with_reducible exact ih3 _ _ _ _ _ _ _ _ _ _ _ _)
      | (with_reducible exact ih4 _ _ _ _)
      | (with_reducible exact ih5 _ _ _ _ _ _ _ _ _ _ _ _)
      | (with_reducible exact shard_Body.mono _ _)
      | (with_reducible exact shard_Foot.mono _ _)
      | (with_reducible exact shard_Head.mono _ _)
      | (with_reducible exact shard_Scan.mono _ _)
      | (with_reducible exact stooklaw21_lives.mono _)
      | (with_reducible exact stookref03_Size.mono _ _)
      | (with_reducible exact stookref21_Same.mono _ _ _ _ _ _ _ _ _)
      | (with_reducible exact LeO.refl _)
      | (with_reducible exact LeO.none _)
      | (with_reducible refine LeO.ite ?_ ?_)
      | (with_reducible refine LeO.bind ?_ (fun _ => ?_))
      | exact ih0 _ _ _ _ _ _ _ _
      | exact ih1 _ _ _ _ _ _ _ _ _
      | exact ih2 _ _ _ _ _ _
      | exact ih3 _ _ _ _ _ _ _ _ _ _ _ _
      | exact ih4 _ _ _ _
      | exact ih5 _ _ _ _ _ _ _ _ _ _ _ _
      | exact shard_Body.mono _ _
      | exact shard_Foot.mono _ _
      | exact shard_Head.mono _ _
      | exact shard_Scan.mono _ _
      | exact stooklaw21_lives.mono _
      | exact stookref03_Size.mono _ _
      | exact stookref21_Same.mono _ _ _ _ _ _ _ _ _
      | exact LeO.none _
      | refine LeO.ite ?_ ?_
      | refine LeO.bind ?_ (fun _ => ?_)
set_option maxHeartbeats 8000000 in
set_option maxRecDepth 100000 in
theorem stooklaw21_ShardCut.calls (k : Nat) (a0 : Int) (A1 : Option Addr) (c1 : Nat) (l1 : List (List Int)) (a2 : Int) (A3 : Option Addr) (c3 : Nat) (l3 : List Int) (r : Bool) (w : World) (hr1 : Kd.C (Kd.slice 5 (Kd.int .u8)) w A1 l1.length l1) (hc1 : l1.length ≤ c1) (hr3 : Kd.C (Kd.int .u8) w A3 l3.length l3) (hc3 : l3.length ≤ c3) (h : stooklaw21_ShardCut.f k a0 l1 a2 l3 = some r) (hr : r = true) :
    Calls Try.prog 5 #[.int .i64 a0, .slice A1 l1.length c1, .int .i64 a2, .slice A3 l3.length c3] w fun e w' => e = .returned (.bool r) ∧ Below w.heap.size w w' := by
  have HRT := Aside0.mk hr
  clear hr
  have hu33 := Try.underlying33
  have HR1 := Aside0.mk hr1
  have HC1 := Aside0.mk hc1
  clear hr1 hc1
  have HR3 := Aside0.mk hr3
  have HC3 := Aside0.mk hc3
  clear hr3 hc3
  have HB := Aside0.mk (Below.refl w.heap.size w)
  have H : ((shard_Head.f k a0).bind fun bt342 => (if bt342.2 = 0 then (stooklaw21_ShardCut.l0 k a0 l1 a2 l3 bt342.1 (bt342.1.length : Int) ([] : List Int) 0) else ((stooklaw21_lives.f k).bind fun t346 => (some t346)))) = some r := h
  clear h
  replace H := Option.bind_eq_some_iff.mp H
  obtain ⟨⟨t342, t343⟩, A50, H⟩ := H
  replace H : (if t343 = 0 then (stooklaw21_ShardCut.l0 k a0 l1 a2 l3 t342 (t342.length : Int) ([] : List Int) 0) else ((stooklaw21_lives.f k).bind fun t346 => (some t346))) = some r := H
  have A5 := Aside0.mk A50
  clear A50
  by_cases c6 : t343 = 0
  · rw [if_pos c6] at H
    have c6b0 : (t343 == 0) = true := beq_iff_eq.mpr c6
    have c6b1 : (t343 != 0) = false := bne_eq_false_iff_eq.mpr c6
    clear c6
    have H' := Aside0.mk H
    clear H
    go_enter Try.func5, Try.ntmps5
    go_wp2_with (first | ((with_reducible refine gate_callee (f := 9) rfl ?_); refine goesL_ (some 24) rfl rfl Try.func9 (by kernel_rfl) rfl #[.int .i64 a0] rfl (by (try simp only [List.map_toArray, List.map_cons, List.map_nil]); first | done | rfl | (simp only [List.length_drop, List.length_take]; rfl)) ?_; (with_reducible refine (shard_Head.calls k a0 t342 t343 _ A5.out).mono ?_); rintro e w7 ⟨v344, rfl, ho0, hb⟩; refine ⟨_, rfl, ?_⟩; have n0_ := Aside0.mk (Kd.R_lower ho0 (below_size (by repeat (first | (with_reducible first | exact HB.out | apply below_alloc | apply pw_below_drewN | apply below_drew1) | exact HB.out)))); have n1_ := Aside0.mk (below_step (by repeat (first | (with_reducible first | exact HB.out | apply below_alloc | apply pw_below_drewN | apply below_drew1) | exact HB.out)) hb); clear HB; have HO345 := n0_; have HB := n1_; clear n0_ n1_; (try clear hb); (try clear hb2); (try clear hk); (try clear hi); (try clear ho0); obtain ⟨Ao8, co8, eo8⟩ := Kd.R_slice HO345.out; subst eo8))
    go_loopg [9, 12, 13] k (fun kq v9 v12 v13 w' => ∃ (x9_1 : List Int) (x12_1 : List Int) (x13_1 : Int), v13 = .int .i64 x13_1 ∧ Aside0 (stooklaw21_ShardCut.l0 kq a0 l1 a2 l3 x9_1 (t342.length : Int) x12_1 x13_1 = some r) ∧ Aside0 (kq ≤ k) ∧ Aside0 (Kd.R (Kd.int .u8) 5 w' w.heap.size (fun _ => True) v9 x9_1) ∧ Aside0 (Kd.R (Kd.int .i64) 3 w' w.heap.size (fun _ => True) v12 x12_1) ∧ Aside0 (Below w.heap.size w w'))
    case atStart => exact ⟨(t342), (([] : List Int)), (0), (by first | rfl | (simp; done) | (simp [*]; done)), H', ⟨Nat.le_refl _⟩, ⟨by (with_reducible repeat (first | apply Kd.R_alloc | apply Kd.R_drewN | apply Kd.R_drew)); exact HO345.out⟩, ⟨by first | exact Kd.R_nil _ _ _ _ _ | exact Kd.N_nil _ _ _ _ _ | exact Kd.V_nil _ _ _ _ _ | exact Kd.Q_nil _ _ _ _ _ | exact Kd.S_nil _ _ _ _ _⟩, ⟨by repeat (first | (with_reducible first | exact HB.out | apply below_alloc | apply pw_below_drewN | apply below_drew1) | exact HB.out)⟩⟩
    case round => as_aux_lemma =>
      clear H'
      try clear c1
      try clear p2
      try clear c3
      try clear c5
      try clear c6
      try clear c6b0
      try clear c6b1
      obtain ⟨x9_1, x12_1, x13_1, rfl, HA, HK1, HO_9, HO_12, HB⟩ := hrel
      cases gk with
      | zero => exact absurd HA.out (by simp [stooklaw21_ShardCut.l0])
      | succ k1 =>
        have H := HA.out
        clear HA
        simp only [stooklaw21_ShardCut.l0] at H
        have HC9 := Aside0.mk H
        clear H
        go_upto_region 7 with (fail)
        go_cut [47] (fun v47 wc => ∃ (kq : Nat) (x47_8 : Bool), v47 = .bool x47_8 ∧ Aside0 (stooklaw21_ShardCut.j1 kq a0 l1 a2 l3 x9_1 (t342.length : Int) x12_1 x13_1 x47_8 = some r) ∧ Aside0 (kq ≤ k1) ∧ Aside0 (Kd.R (Kd.int .u8) 5 wc w.heap.size (fun _ => True) u9 x9_1) ∧ Aside0 (Kd.R (Kd.int .i64) 3 wc w.heap.size (fun _ => True) u12 x12_1) ∧ Aside0 (Below w.heap.size w wc))
        case first => as_aux_lemma =>
          have H := HC9.out
          clear HC9
          by_cases c10 : x13_1 < (l1.length : Int)
          · rw [if_pos c10] at H
            have c10b0 : decide (x13_1 < (l1.length : Int)) = true := decide_eq_true c10
            clear c10
            (first | rw [c10b0] | (simp only [i64_w, i32_w]; rw [c10b0]) | skip)
            by_cases c11 : x13_1 < 20
            · rw [if_pos c11] at H
              have c11b0 : decide (x13_1 < 20) = true := decide_eq_true c11
              clear c11
              by_cases c12 : 0 ≤ x13_1
              · rw [if_pos c12] at H
                have c12b0 : decide (0 ≤ x13_1) = true := decide_eq_true c12
                clear c12
                have H' := Aside0.mk H
                clear H
                have p347 : 0 ≤ (x13_1 : Int) := of_decide_eq_true (by first | (with_reducible assumption) | assumption)
                have q347 : x13_1 < (l1.length : Int) := of_decide_eq_true (by first | (with_reducible assumption) | assumption)
                obtain ⟨ad347, A347_0, c347_0, e347, hx347_0, hl347_0, hi347_0⟩ := at_L3 HR1.out x13_1 p347 q347
                cases e347
                replace hx347_0 := (HB.out.cell (World.block_lt_of_cell? w _ hx347_0)).trans hx347_0
                have HR347_0 := Aside0.mk hi347_0
                have HC347_0 := Aside0.mk hl347_0
                clear hi347_0 hl347_0
                replace p347 := eq_true p347
                replace q347 := eq_true q347
                go_wp2
                go_meet
                case rel => exact ⟨_, (decide (((rd_L3 l1 x13_1).length : Int) ≤ 300)), (by first | rfl | (simp; done) | (simp [*]; done)), H', ⟨by have := HK1.out; first | omega | exact Nat.le_refl _⟩, ⟨by (with_reducible repeat (first | apply Kd.R_alloc | apply Kd.R_drewN | apply Kd.R_drew)); exact HO_9.out⟩, ⟨by (with_reducible repeat (first | apply Kd.R_alloc | apply Kd.R_drewN | apply Kd.R_drew)); exact HO_12.out⟩, ⟨by repeat (first | (with_reducible first | exact HB.out | apply below_alloc | apply pw_below_drewN | apply below_drew1) | exact HB.out)⟩⟩
              · rw [if_neg c12] at H
                exact absurd H (by simp)
            · rw [if_neg c11] at H
              have c11b0 : decide (x13_1 < 20) = false := decide_eq_false c11
              clear c11
              have H' := Aside0.mk H
              clear H
              go_wp2
              go_meet
              case rel => exact ⟨_, (false), (by first | rfl | (simp; done) | (simp [*]; done)), H', ⟨by have := HK1.out; first | omega | exact Nat.le_refl _⟩, ⟨by (with_reducible repeat (first | apply Kd.R_alloc | apply Kd.R_drewN | apply Kd.R_drew)); exact HO_9.out⟩, ⟨by (with_reducible repeat (first | apply Kd.R_alloc | apply Kd.R_drewN | apply Kd.R_drew)); exact HO_12.out⟩, ⟨by repeat (first | (with_reducible first | exact HB.out | apply below_alloc | apply pw_below_drewN | apply below_drew1) | exact HB.out)⟩⟩
          · rw [if_neg c10] at H
            have c10b0 : decide (x13_1 < (l1.length : Int)) = false := decide_eq_false c10
            clear c10
            (first | rw [c10b0] | (simp only [i64_w, i32_w]; rw [c10b0]) | skip)
            have H' := Aside0.mk H
            clear H
            go_wp2
            go_meet
            case rel => exact ⟨_, (false), (by first | rfl | (simp; done) | (simp [*]; done)), H', ⟨by have := HK1.out; first | omega | exact Nat.le_refl _⟩, ⟨by (with_reducible repeat (first | apply Kd.R_alloc | apply Kd.R_drewN | apply Kd.R_drew)); exact HO_9.out⟩, ⟨by (with_reducible repeat (first | apply Kd.R_alloc | apply Kd.R_drewN | apply Kd.R_drew)); exact HO_12.out⟩, ⟨by repeat (first | (with_reducible first | exact HB.out | apply below_alloc | apply pw_below_drewN | apply below_drew1) | exact HB.out)⟩⟩
        case rest => as_aux_lemma =>
          clear HC9
          try clear c1
          try clear p2
          try clear c3
          try clear p3
          try clear q3
          try clear hx3
          try clear c5
          try clear c6
          try clear c6b0
          try clear c6b1
          try clear c9
          try clear c10
          try clear c10b0
          try clear c11
          try clear c11b0
          try clear c12
          try clear c12b0
          try clear hx347_0
          try clear p2
          try clear p347
          try clear q347
          obtain ⟨kq, x47_8, rfl, HA, HJ8, HO_9, HO_12, HB⟩ := hcut
          cases kq with
          | zero => exact absurd HA.out (by simp [stooklaw21_ShardCut.j1])
          | succ kj8 =>
            have H := HA.out
            clear HA
            simp only [stooklaw21_ShardCut.j1] at H
            by_cases c13 : x47_8 = true
            · subst c13
              have H1 : (if 0 ≤ x13_1 then (if x13_1 < (l1.length : Int) then ((shard_Body.f kj8 (rd_L3 l1 x13_1)).bind fun bt349 => (if bt349.2 = 0 then ((stookref03_Size.f kj8 (wrap64 (1 + ((rd_L3 l1 x13_1).length : Int)))).bind fun t354 => (if (bt349.1.length : Int) = t354 then (if x9_1.length + bt349.1.length < 140737488355328 then ((some (x9_1 ++ bt349.1 : List Int)).bind fun y355 => (if x12_1.length < 17592186044416 then (stooklaw21_ShardCut.l0 kj8 a0 l1 a2 l3 y355 (t342.length : Int) (x12_1 ++ [(y355.length : Int)]) (wrap64 (x13_1 + 1))) else (none))) else (none)) else (some false))) else (some false))) else (none)) else (none)) = some r := by rw [if_pos rfl] at H; exact H
              clear H
              have H := H1
              clear H1
              by_cases c14 : 0 ≤ x13_1
              · rw [if_pos c14] at H
                have c14b0 : decide (0 ≤ x13_1) = true := decide_eq_true c14
                clear c14
                by_cases c15 : x13_1 < (l1.length : Int)
                · rw [if_pos c15] at H
                  have c15b0 : decide (x13_1 < (l1.length : Int)) = true := decide_eq_true c15
                  clear c15
                  replace H := Option.bind_eq_some_iff.mp H
                  obtain ⟨⟨t349, t350⟩, A160, H⟩ := H
                  replace H : (if t350 = 0 then ((stookref03_Size.f kj8 (wrap64 (1 + ((rd_L3 l1 x13_1).length : Int)))).bind fun t354 => (if (t349.length : Int) = t354 then (if x9_1.length + t349.length < 140737488355328 then ((some (x9_1 ++ t349 : List Int)).bind fun y355 => (if x12_1.length < 17592186044416 then (stooklaw21_ShardCut.l0 kj8 a0 l1 a2 l3 y355 (t342.length : Int) (x12_1 ++ [(y355.length : Int)]) (wrap64 (x13_1 + 1))) else (none))) else (none)) else (some false))) else (some false)) = some r := H
                  have A16 := Aside0.mk A160
                  clear A160
                  by_cases c17 : t350 = 0
                  · rw [if_pos c17] at H
                    have c17b0 : (t350 == 0) = true := beq_iff_eq.mpr c17
                    have c17b1 : (t350 != 0) = false := bne_eq_false_iff_eq.mpr c17
                    clear c17
                    replace H := Option.bind_eq_some_iff.mp H
                    obtain ⟨t354, A180, H⟩ := H
                    replace H : (if (t349.length : Int) = t354 then (if x9_1.length + t349.length < 140737488355328 then ((some (x9_1 ++ t349 : List Int)).bind fun y355 => (if x12_1.length < 17592186044416 then (stooklaw21_ShardCut.l0 kj8 a0 l1 a2 l3 y355 (t342.length : Int) (x12_1 ++ [(y355.length : Int)]) (wrap64 (x13_1 + 1))) else (none))) else (none)) else (some false)) = some r := H
                    have A18 := Aside0.mk A180
                    clear A180
                    by_cases c19 : (t349.length : Int) = t354
                    · rw [if_pos c19] at H
                      have c19b0 : ((t349.length : Int) == t354) = true := beq_iff_eq.mpr c19
                      have c19b1 : ((t349.length : Int) != t354) = false := bne_eq_false_iff_eq.mpr c19
                      clear c19
                      by_cases c20 : x9_1.length + t349.length < 140737488355328
                      · rw [if_pos c20] at H
                        have LMc20 := Aside0.mk c20
                        clear c20
                        obtain ⟨y355, hy355⟩ : ∃ y_ : List Int, y_ = (x9_1 ++ t349) := ⟨_, rfl⟩
                        replace H : (if x12_1.length < 17592186044416 then (stooklaw21_ShardCut.l0 kj8 a0 l1 a2 l3 y355 (t342.length : Int) (x12_1 ++ [(y355.length : Int)]) (wrap64 (x13_1 + 1))) else (none)) = some r := by first | (rw [hy355]; with_reducible exact H) | (have H2_ := (Option.bind_some _ _).symm.trans H; rw [hy355]; with_reducible exact H2_) | (have H2_ := (Option.bind_some _ _).symm.trans H; with_reducible exact H2_) | with_reducible exact H | (rw [hy355]; exact H) | exact H
                        have Ny355 := Aside0.mk hy355
                        clear hy355
                        by_cases c21 : x12_1.length < 17592186044416
                        · rw [if_pos c21] at H
                          have LMc21 := Aside0.mk c21
                          clear c21
                          obtain ⟨y358, hy358⟩ : ∃ y_ : List Int, y_ = (x12_1 ++ [(y355.length : Int)]) := ⟨_, rfl⟩
                          replace H : (stooklaw21_ShardCut.l0 kj8 a0 l1 a2 l3 y355 (t342.length : Int) y358 (wrap64 (x13_1 + 1))) = some r := by first | (rw [hy358]; with_reducible exact H) | (have H2_ := (Option.bind_some _ _).symm.trans H; rw [hy358]; with_reducible exact H2_) | (have H2_ := (Option.bind_some _ _).symm.trans H; with_reducible exact H2_) | with_reducible exact H | (rw [hy358]; exact H) | exact H
                          have Ny358 := Aside0.mk hy358
                          clear hy358
                          have H' := Aside0.mk H
                          clear H
                          have p348 : 0 ≤ (x13_1 : Int) := of_decide_eq_true (by first | (with_reducible assumption) | assumption)
                          have q348 : x13_1 < (l1.length : Int) := of_decide_eq_true (by first | (with_reducible assumption) | assumption)
                          obtain ⟨ad348, A348_0, c348_0, e348, hx348_0, hl348_0, hi348_0⟩ := at_L3 HR1.out x13_1 p348 q348
                          cases e348
                          replace hx348_0 := (HB.out.cell (World.block_lt_of_cell? w _ hx348_0)).trans hx348_0
                          have HR348_0 := Aside0.mk hi348_0
                          have HC348_0 := Aside0.mk hl348_0
                          clear hi348_0 hl348_0
                          replace p348 := eq_true p348
                          replace q348 := eq_true q348
                          go_wp2_with (first | ((with_reducible refine gate_callee (f := 11) rfl ?_); refine goesL_ (some 55) rfl rfl Try.func11 (by kernel_rfl) rfl #[.slice A348_0 (rd_L3 l1 x13_1).length c348_0] rfl (by (try simp only [List.map_toArray, List.map_cons, List.map_nil]); first | done | rfl | (simp only [List.length_drop, List.length_take]; rfl)) ?_; (with_reducible refine (shard_Body.calls kj8 _ _ (rd_L3 l1 x13_1) t349 t350 _ ?side1 ?side2 A16.out).mono ?_); (case side1 => repeat (first | exact (Kd.C_below HR348_0.out HB.out) | (with_reducible refine Kd.C_alloc ?_ _) | (with_reducible refine Kd.C_drewN ?_ _) | (with_reducible refine Kd.C_drew ?_))); (case side2 => exact HC348_0.out); rintro e w22 ⟨v351, rfl, ho0, hb⟩; refine ⟨_, rfl, ?_⟩; have n0_ := Aside0.mk (Kd.R_elder' (by (with_reducible repeat (first | apply Kd.R_alloc | apply Kd.R_drewN | apply Kd.R_drew)); exact HO_9.out) (Kd.R_base ho0) hb); have n1_ := Aside0.mk (Kd.R_below (by (with_reducible repeat (first | apply Kd.R_alloc | apply Kd.R_drewN | apply Kd.R_drew)); exact HO_12.out) hb); have n2_ := Aside0.mk (Kd.R_lower (Kd.R_new' ho0 (Kd.R_lt (by (with_reducible repeat (first | apply Kd.R_alloc | apply Kd.R_drewN | apply Kd.R_drew)); exact HO_9.out))) (below_size (by repeat (first | (with_reducible first | exact HB.out | apply below_alloc | apply pw_below_drewN | apply below_drew1) | exact HB.out)))); have n3_ := Aside0.mk (below_step (by repeat (first | (with_reducible first | exact HB.out | apply below_alloc | apply pw_below_drewN | apply below_drew1) | exact HB.out)) hb); clear HO_9; clear HO_12; clear HB; have HO_9 := n0_; have HO_12 := n1_; have HO352 := n2_; have HB := n3_; clear n0_ n1_ n2_ n3_; (try clear hb); (try clear hb2); (try clear hk); (try clear hi); (try clear ho0); obtain ⟨Ao23, co23, eo23⟩ := Kd.R_slice HO352.out; subst eo23; have p353 : 0 ≤ (x13_1 : Int) := of_decide_eq_true (by first | (with_reducible assumption) | assumption); have q353 : x13_1 < (l1.length : Int) := of_decide_eq_true (by first | (with_reducible assumption) | assumption); obtain ⟨ad353, A353_0, c353_0, e353, hx353_0, hl353_0, hi353_0⟩ := at_L3 HR1.out x13_1 p353 q353; obtain rfl : ad348 = ad353 := (by injection e353); replace hx353_0 := (HB.out.cell (World.block_lt_of_cell? w _ hx353_0)).trans hx353_0; have HR353_0 := Aside0.mk hi353_0; have HC353_0 := Aside0.mk hl353_0; clear hi353_0 hl353_0; replace p353 := eq_true p353; replace q353 := eq_true q353) | (go_at_call 21; (with_reducible refine (stookref03_Size.calls kj8 (wrap64 (1 + ((rd_L3 l1 x13_1).length : Int))) t354 _ A18.out).mono ?_); rintro e w24 ⟨rfl, hb⟩; have n0_ := Aside0.mk (Kd.R_below (by (with_reducible repeat (first | apply Kd.R_alloc | apply Kd.R_drewN | apply Kd.R_drew)); exact HO_9.out) hb); have n1_ := Aside0.mk (Kd.R_below (by (with_reducible repeat (first | apply Kd.R_alloc | apply Kd.R_drewN | apply Kd.R_drew)); exact HO_12.out) hb); have n2_ := Aside0.mk (Kd.R_below (by (with_reducible repeat (first | apply Kd.R_alloc | apply Kd.R_drewN | apply Kd.R_drew)); exact HO352.out) hb); have n3_ := Aside0.mk (below_step (by repeat (first | (with_reducible first | exact HB.out | apply below_alloc | apply pw_below_drewN | apply below_drew1) | exact HB.out)) hb); clear HO_9; clear HO_12; clear HO352; clear HB; have HO_9 := n0_; have HO_12 := n1_; have HO352 := n2_; have HB := n3_; clear n0_ n1_ n2_ n3_; (try clear hb); (try clear hb2); (try clear hk); (try clear hi)) | ((with_reducible refine gate_builtin (b := .append) (xs := #[.tmp 72, .tmp 73]) rfl ?_); (try (refine gate_guard (by rfl) ?_; dsimp only)); at_builtin; refine Kd.R_append_rows (Kd.int .u8) (w0 := w) w.heap.size rfl (.tmp 72) (.tmp 73) 22 5 (.int .u8 0) 1 rfl Try.underlying22 info5 rfl (by decide) (by omega) u9 x9_1 t349 _ _ _ (fun k_ => some k_ ≠ (.slice Ao23 t349.length co23 : Value).ownBlock) (fun _ => False) rfl rfl ?aO ?aR (fun _ _ h => h) (fun _ h => h.elim) ?aF ?aB ?aS ?aL ?_; (case aR => repeat (first | exact (Kd.R_reads' HO352.out).2.2 | (with_reducible refine Kd.C_alloc ?_ _) | (with_reducible refine Kd.C_drewN ?_ _) | (with_reducible refine Kd.C_drew ?_))); (case aB => exact (by repeat (first | (with_reducible first | exact HB.out | apply below_alloc | apply pw_below_drewN | apply below_drew1) | exact HB.out))); (case aF => exact (fun k_ hk => Kd.fresh' (Kd.R_lt (by (with_reducible repeat (first | apply Kd.R_alloc | apply Kd.R_drewN | apply Kd.R_drew)); exact HO352.out)) k_ hk)); (case aO => exact (by (with_reducible repeat (first | apply Kd.R_alloc | apply Kd.R_drewN | apply Kd.R_drew)); exact Kd.R_mono HO_9.out (fun _ hk => hk.2))); (case aS => exact (below_size (by repeat (first | (with_reducible first | exact HB.out | apply below_alloc | apply pw_below_drewN | apply below_drew1) | exact HB.out)))); (case aL => have := LMc20.out; omega); intro v356 w25 ho hb hg hat; rw [← Ny355.out] at ho; have n0_ := Aside0.mk (Kd.R_over' (by (with_reducible repeat (first | apply Kd.R_alloc | apply Kd.R_drewN | apply Kd.R_drew)); exact HO_12.out) (Kd.R_typed (by (with_reducible repeat (first | apply Kd.R_alloc | apply Kd.R_drewN | apply Kd.R_drew)); exact HO_9.out)) (by decide) hg); have n1_ := Aside0.mk (Kd.R_after (ok := (fun _ => True)) (by (with_reducible repeat (first | apply Kd.R_alloc | apply Kd.R_drewN | apply Kd.R_drew)); exact HO352.out) hg hat); have n2_ := Aside0.mk (hb); have n3_ := Aside0.mk (ho); clear HO_12; clear HO352; clear HB; clear HO_9; have HO_12 := n0_; have HO352 := n1_; have HB := n2_; have HO357 := n3_; clear n0_ n1_ n2_ n3_; clear ho hb hg hat; obtain ⟨Ao26, co26, eo26⟩ := Kd.R_slice HO357.out; subst eo26) | ((with_reducible refine gate_builtin (b := .append) (xs := #[.tmp 75, .tmp 78]) rfl ?_); (try (refine gate_guard (by rfl) ?_; dsimp only)); at_builtin; refine Kd.R_append (Kd.int .i64) (w0 := w) w.heap.size rfl (.tmp 75) (.tmp 78) 31 3 (.int .i64 0) 8 rfl Try.underlying31 info3 rfl (by decide) (by omega) u12 x12_1 (y355.length : Int) [.int .i64 (y355.length : Int)] (fun _ => True) (fun _ => False) rfl rfl ?aP (fun _ hk => hk.elim) ?aF ?aO ?aB ?aS ?aL ?_; (case aP => exact rfl); (case aB => exact (by repeat (first | (with_reducible first | exact HB.out | apply below_alloc | apply pw_below_drewN | apply below_drew1) | exact HB.out))); (case aF => exact (fun _ _ => trivial)); (case aO => exact (by (with_reducible repeat (first | apply Kd.R_alloc | apply Kd.R_drewN | apply Kd.R_drew)); exact HO_12.out)); (case aS => exact (below_size (by repeat (first | (with_reducible first | exact HB.out | apply below_alloc | apply pw_below_drewN | apply below_drew1) | exact HB.out)))); (case aL => have := LMc21.out; omega); intro v359 w27 ho hb hg hat; rw [← Ny358.out] at ho; have n0_ := Aside0.mk (Kd.R_over' (by (with_reducible repeat (first | apply Kd.R_alloc | apply Kd.R_drewN | apply Kd.R_drew)); exact HO352.out) (Kd.R_typed (by (with_reducible repeat (first | apply Kd.R_alloc | apply Kd.R_drewN | apply Kd.R_drew)); exact HO_12.out)) (by decide) hg); have n1_ := Aside0.mk (Kd.R_over' (by (with_reducible repeat (first | apply Kd.R_alloc | apply Kd.R_drewN | apply Kd.R_drew)); exact HO357.out) (Kd.R_typed (by (with_reducible repeat (first | apply Kd.R_alloc | apply Kd.R_drewN | apply Kd.R_drew)); exact HO_12.out)) (by decide) hg); have n2_ := Aside0.mk (hb); have n3_ := Aside0.mk (ho); clear HO352; clear HO357; clear HB; clear HO_12; have HO352 := n0_; have HO357 := n1_; have HB := n2_; have HO360 := n3_; clear n0_ n1_ n2_ n3_; clear ho hb hg hat))
                          go_roundg kj8
                          case measure => have := HK1.out; have := HJ8.out; omega
                          case rel => exact ⟨(y355), (y358), (wrap64 (x13_1 + 1)), (by first | rfl | (simp; done) | (simp [*]; done)), H', ⟨by have := HK1.out; have := HJ8.out; omega⟩, ⟨by (with_reducible repeat (first | apply Kd.R_alloc | apply Kd.R_drewN | apply Kd.R_drew)); exact Kd.R_mono HO357.out (fun _ hk => trivial)⟩, ⟨by (with_reducible repeat (first | apply Kd.R_alloc | apply Kd.R_drewN | apply Kd.R_drew)); exact HO360.out⟩, ⟨by repeat (first | (with_reducible first | exact HB.out | apply below_alloc | apply pw_below_drewN | apply below_drew1) | exact HB.out)⟩⟩
                        · rw [if_neg c21] at H
                          exact absurd H (by simp)
                      · rw [if_neg c20] at H
                        exact absurd H (by simp)
                    · rw [if_neg c19] at H
                      exact absurd ((Option.some.inj H).trans HRT.out) (by decide)
                  · rw [if_neg c17] at H
                    exact absurd ((Option.some.inj H).trans HRT.out) (by decide)
                · rw [if_neg c15] at H
                  exact absurd H (by simp)
              · rw [if_neg c14] at H
                exact absurd H (by simp)
            · replace c13 := Bool.eq_false_iff.mpr c13
              subst c13
              have H1 : (if a2 < 0 then (stooklaw21_ShardCut.j2 kj8 a0 (wrap64 (-(wrap64 (a2 + 1)))) l3 x9_1 (t342.length : Int) x12_1) else (stooklaw21_ShardCut.j2 kj8 a0 a2 l3 x9_1 (t342.length : Int) x12_1)) = some r := by rw [if_neg (show ¬ (false = true) by decide)] at H; exact H
              clear H
              have H := H1
              clear H1
              have HC32 := Aside0.mk H
              clear H
              go_upto_if 81 with (fail)
              go_cut [2] (fun v2 wc => ∃ (kq : Nat) (x2_31 : Int), v2 = .int .i64 x2_31 ∧ Aside0 (stooklaw21_ShardCut.j2 kq a0 x2_31 l3 x9_1 (t342.length : Int) x12_1 = some r) ∧ Aside0 (kq ≤ kj8) ∧ Aside0 (Kd.R (Kd.int .u8) 5 wc w.heap.size (fun _ => True) u9 x9_1) ∧ Aside0 (Kd.R (Kd.int .i64) 3 wc w.heap.size (fun _ => True) u12 x12_1) ∧ Aside0 (Below w.heap.size w wc))
              case first => as_aux_lemma =>
                have H := HC32.out
                clear HC32
                by_cases c33 : a2 < 0
                · rw [if_pos c33] at H
                  have c33b0 : decide (a2 < 0) = true := decide_eq_true c33
                  clear c33
                  (first | rw [c33b0] | (simp only [i64_w, i32_w]; rw [c33b0]) | skip)
                  have H' := Aside0.mk H
                  clear H
                  go_wp2
                  go_meet
                  case rel => exact ⟨_, (wrap64 (-(wrap64 (a2 + 1)))), (by first | rfl | (simp; done) | (simp [*]; done)), H', ⟨by have := HK1.out; have := HJ8.out; first | omega | exact Nat.le_refl _⟩, ⟨by (with_reducible repeat (first | apply Kd.R_alloc | apply Kd.R_drewN | apply Kd.R_drew)); exact HO_9.out⟩, ⟨by (with_reducible repeat (first | apply Kd.R_alloc | apply Kd.R_drewN | apply Kd.R_drew)); exact HO_12.out⟩, ⟨by repeat (first | (with_reducible first | exact HB.out | apply below_alloc | apply pw_below_drewN | apply below_drew1) | exact HB.out)⟩⟩
                · rw [if_neg c33] at H
                  have c33b0 : decide (a2 < 0) = false := decide_eq_false c33
                  clear c33
                  (first | rw [c33b0] | (simp only [i64_w, i32_w]; rw [c33b0]) | skip)
                  have H' := Aside0.mk H
                  clear H
                  go_wp2
                  go_meet
                  case rel => exact ⟨_, (a2), (by first | rfl | (simp; done) | (simp [*]; done)), H', ⟨by have := HK1.out; have := HJ8.out; first | omega | exact Nat.le_refl _⟩, ⟨by (with_reducible repeat (first | apply Kd.R_alloc | apply Kd.R_drewN | apply Kd.R_drew)); exact HO_9.out⟩, ⟨by (with_reducible repeat (first | apply Kd.R_alloc | apply Kd.R_drewN | apply Kd.R_drew)); exact HO_12.out⟩, ⟨by repeat (first | (with_reducible first | exact HB.out | apply below_alloc | apply pw_below_drewN | apply below_drew1) | exact HB.out)⟩⟩
              case rest => as_aux_lemma =>
                clear HC32
                try clear c1
                try clear c2
                try clear p2
                try clear c3
                try clear p3
                try clear q3
                try clear hx3
                try clear c5
                try clear c6
                try clear c6b0
                try clear c6b1
                try clear p6
                try clear c9
                try clear c10
                try clear c10b0
                try clear c11
                try clear c11b0
                try clear c12
                try clear c12b0
                try clear c13
                try clear c14
                try clear c14b0
                try clear c15
                try clear c15b0
                try clear c17
                try clear c17b0
                try clear c17b1
                try clear c19
                try clear c19b0
                try clear c19b1
                try clear c20
                try clear c21
                try clear c33
                try clear c33b0
                try clear hx347_0
                try clear hx348_0
                try clear hx353_0
                try clear p2
                try clear p3
                try clear p347
                try clear p348
                try clear p353
                try clear q3
                try clear q347
                try clear q348
                try clear q353
                obtain ⟨kq, x2_31, rfl, HA, HJ31, HO_9, HO_12, HB⟩ := hcut
                cases kq with
                | zero => exact absurd HA.out (by simp [stooklaw21_ShardCut.j2])
                | succ kj31 =>
                  have H := HA.out
                  clear HA
                  simp only [stooklaw21_ShardCut.j2] at H
                  by_cases c34 : (wrap64 ((x9_1.length : Int) + 1)) = 0
                  · rw [if_pos c34] at H
                    exact absurd H (by simp)
                  · rw [if_neg c34] at H
                    have c34b0 : ((wrap64 ((x9_1.length : Int) + 1)) == 0) = false := beq_eq_false_iff_ne.mpr c34
                    have c34b1 : ((wrap64 ((x9_1.length : Int) + 1)) != 0) = true := bne_iff_ne.mpr c34
                    obtain ⟨ji35, hji35⟩ : ∃ j_ : Int, (Int.tmod x2_31 (wrap64 ((x9_1.length : Int) + 1))) = j_ := ⟨_, rfl⟩
                    replace H : (if 0 ≤ (ji35) then (if (ji35) ≤ (x9_1.length : Int) then ((shard_Scan.f kj31 (x9_1.take ((ji35) : Int).toNat)).bind fun bt365 => (stooklaw21_ShardCut.l1 kj31 a0 l3 x9_1 bt365.2.2.2.2 (t342.length : Int) x12_1 ji35 0 bt365.1 bt365.2.1 bt365.2.2.1 bt365.2.2.2.1)) else (none)) else (none)) = some r := by first | (rw [hji35] at H; exact H) | (simp only [hji35] at H ⊢; exact H)
                    by_cases c36 : 0 ≤ (ji35)
                    · rw [if_pos c36] at H
                      have c36b0 := eq_true c36
                      have c36b1 : decide (0 ≤ (ji35)) = true := decide_eq_true c36
                      clear c36
                      by_cases c37 : (ji35) ≤ (x9_1.length : Int)
                      · rw [if_pos c37] at H
                        have c37b0 := eq_true c37
                        have c37b1 : decide ((ji35) ≤ (x9_1.length : Int)) = true := decide_eq_true c37
                        clear c37
                        obtain ⟨y361, hy361⟩ : ∃ y_ : List Int, y_ = (x9_1.take ((ji35) : Int).toNat) := ⟨_, rfl⟩
                        replace H : ((shard_Scan.f kj31 y361).bind fun bt365 => (stooklaw21_ShardCut.l1 kj31 a0 l3 x9_1 bt365.2.2.2.2 (t342.length : Int) x12_1 ji35 0 bt365.1 bt365.2.1 bt365.2.2.1 bt365.2.2.2.1)) = some r := by first | (rw [hy361]; with_reducible exact H) | (have H2_ := (Option.bind_some _ _).symm.trans H; rw [hy361]; with_reducible exact H2_) | (have H2_ := (Option.bind_some _ _).symm.trans H; with_reducible exact H2_) | with_reducible exact H | (rw [hy361]; exact H) | exact H
                        have Ny361 := Aside0.mk hy361
                        clear hy361
                        replace H := Option.bind_eq_some_iff.mp H
                        obtain ⟨⟨t365, t366, t369, t370, t371⟩, A380, H⟩ := H
                        replace H : (stooklaw21_ShardCut.l1 kj31 a0 l3 x9_1 t371 (t342.length : Int) x12_1 ji35 0 t365 t366 t369 t370) = some r := H
                        have A38 := Aside0.mk A380
                        clear A380
                        have HC39 := Aside0.mk H
                        clear H
                        obtain ⟨Ao40, co40, eo40⟩ := Kd.R_slice HO_9.out
                        subst eo40
                        have q41 : ((ji35) : Int) ≤ ((x9_1.length : Int) : Int) := of_decide_eq_true (by first | (with_reducible assumption) | assumption)
                        obtain ⟨i041, hi041, _, hsz41, _⟩ := info_parts info5
                        have hroom41 : x9_1.length ≤ co40 := (Kd.R_reads' HO_9.out).2.1
                        have hC41 : Kd.C (Kd.int .u8) _ Ao40 x9_1.length x9_1 := (Kd.R_reads' HO_9.out).2.2
                        have hcut41 := cut_to (P := Try.prog) 22 5 .i64 Try.underlying22 hi041 Ao40 x9_1.length co40 (ji35) (of_decide_eq_true (by first | (with_reducible assumption) | assumption)) q41 hroom41
                        have hr41 := Kd.C_take (m := ((ji35) : Int).toNat) hC41 (by omega)
                        have hy41 : y361.length = ((ji35) : Int).toNat := (by rw [Ny361.out, List.length_take]; omega)
                        rw [← Ny361.out] at hr41
                        rw [← hy41] at hcut41
                        have HR364 := Aside0.mk hr41
                        have HC364 := Aside0.mk (show y361.length ≤ co40 from by omega)
                        clear hr41 hC41 hroom41 hi041 hsz41
                        have KY41 := Aside0.mk hy41
                        clear hy41
                        have KL41 := Aside0.mk (show ((ji35) : Int).toNat ≤ x9_1.length from by omega)
                        replace q41 := eq_true q41
                        go_upto_block 2 with (first | ((with_reducible refine gate_callee (f := 16) rfl ?_); refine goesL_ (some 94) rfl rfl Try.func16 (by kernel_rfl) rfl #[.slice Ao40 y361.length co40] rfl (by (try simp only [List.map_toArray, List.map_cons, List.map_nil]); first | done | rfl | (simp only [List.length_drop, List.length_take]; rfl)) ?_; (with_reducible refine (shard_Scan.calls kj31 _ _ y361 t365 t366 t369 t370 t371 _ ?side1 ?side2 A38.out).mono ?_); (case side1 => repeat (first | exact (by repeat (first | (with_reducible exact HR364.out) | (with_reducible refine Kd.C_alloc ?_ _) | (with_reducible refine Kd.C_drewN ?_ _) | (with_reducible refine Kd.C_drew ?_) | exact HR364.out)) | (with_reducible refine Kd.C_alloc ?_ _) | (with_reducible refine Kd.C_drewN ?_ _) | (with_reducible refine Kd.C_drew ?_))); (case side2 => exact HC364.out); rintro e w42 ⟨v367, rfl, ho0, hb⟩; refine ⟨_, rfl, ?_⟩; have n0_ := Aside0.mk (Kd.R_below (by (with_reducible repeat (first | apply Kd.R_alloc | apply Kd.R_drewN | apply Kd.R_drew)); exact HO_9.out) hb); have n1_ := Aside0.mk (Kd.R_elder' (by (with_reducible repeat (first | apply Kd.R_alloc | apply Kd.R_drewN | apply Kd.R_drew)); exact HO_12.out) (Kd.R_base ho0) hb); have n2_ := Aside0.mk (Kd.R_lower (Kd.R_new' ho0 (Kd.R_lt (by (with_reducible repeat (first | apply Kd.R_alloc | apply Kd.R_drewN | apply Kd.R_drew)); exact HO_12.out))) (below_size (by repeat (first | (with_reducible first | exact HB.out | apply below_alloc | apply pw_below_drewN | apply below_drew1) | exact HB.out)))); have n3_ := Aside0.mk (Kd.C_below (by repeat (first | (with_reducible exact HR364.out) | (with_reducible refine Kd.C_alloc ?_ _) | (with_reducible refine Kd.C_drewN ?_ _) | (with_reducible refine Kd.C_drew ?_) | exact HR364.out)) hb); have n4_ := Aside0.mk (below_step (by repeat (first | (with_reducible first | exact HB.out | apply below_alloc | apply pw_below_drewN | apply below_drew1) | exact HB.out)) hb); clear HO_9; clear HO_12; clear HR364; clear HB; have HO_9 := n0_; have HO_12 := n1_; have HO368 := n2_; have HR364 := n3_; have HB := n4_; clear n0_ n1_ n2_ n3_ n4_; (try clear hb); (try clear hb2); (try clear hk); (try clear hi); (try clear ho0)) | ((with_reducible refine gate_dst (N := 17) rfl ?_); (try (refine gate_guard (by rfl) ?_; dsimp only)); refine box_event ?hg (N := 17) ?hd (cs := #[.int .i64 0, .slice none 0 0, .bool false, .int .i64 0]) (t := 33) ?hr ?_; (case hd => rfl); (case hg => rfl); (case hr => first | (go_simp; done) | (go_simp; rfl)); intro gb372 hg w43 hbox hb; have n0_ := Aside0.mk (Kd.R_below (by (with_reducible repeat (first | apply Kd.R_alloc | apply Kd.R_drewN | apply Kd.R_drew)); exact HO_9.out) hb); have n1_ := Aside0.mk (Kd.R_below (by (with_reducible repeat (first | apply Kd.R_alloc | apply Kd.R_drewN | apply Kd.R_drew)); exact HO_12.out) hb); have n2_ := Aside0.mk (Kd.R_below (by (with_reducible repeat (first | apply Kd.R_alloc | apply Kd.R_drewN | apply Kd.R_drew)); exact HO368.out) hb); have n3_ := Aside0.mk (Kd.C_below (by repeat (first | (with_reducible exact HR364.out) | (with_reducible refine Kd.C_alloc ?_ _) | (with_reducible refine Kd.C_drewN ?_ _) | (with_reducible refine Kd.C_drew ?_) | exact HR364.out)) hb); have n4_ := Aside0.mk (below_step (by repeat (first | (with_reducible first | exact HB.out | apply below_alloc | apply pw_below_drewN | apply below_drew1) | exact HB.out)) hb); have n5_ := Aside0.mk (hbox); have n6_ := Aside0.mk ((by rw [hg]; exact (below_size (by repeat (first | (with_reducible first | exact HB.out | apply below_alloc | apply pw_below_drewN | apply below_drew1) | exact HB.out))) : w.heap.size ≤ gb372)); have n7_ := Aside0.mk ((by rw [hg]; exact (below_size (by repeat (first | (with_reducible first | exact HB.out | apply below_alloc | apply pw_below_drewN | apply below_drew1) | exact HB.out))) : w.heap.size ≤ gb372)); clear HO_9; clear HO_12; clear HO368; clear HR364; clear HB; have HO_9 := n0_; have HO_12 := n1_; have HO368 := n2_; have HR364 := n3_; have HB := n4_; have BK372 := n5_; have GW372 := n6_; have GE372 := n7_; clear n0_ n1_ n2_ n3_ n4_ n5_ n6_ n7_; clear hb hbox hg; have hcz44_0 : w43.cell? ⟨gb372, 0, none⟩ = some (.int .i64 0) := (blk_cell BK372.out 0).trans rfl; have hcz44_1 : w43.cell? ⟨gb372, 1, none⟩ = some (.slice none 0 0) := (blk_cell BK372.out 1).trans rfl; have hcz44_2 : w43.cell? ⟨gb372, 2, none⟩ = some (.bool false) := (blk_cell BK372.out 2).trans rfl; have hcz44_3 : w43.cell? ⟨gb372, 3, none⟩ = some (.int .i64 0) := (blk_cell BK372.out 3).trans rfl; have hfz44_0 := blk_frozen BK372.out 0; have hfz44_1 := blk_frozen BK372.out 1; have hfz44_2 := blk_frozen BK372.out 2; have hfz44_3 := blk_frozen BK372.out 3; obtain ⟨Ao45, co45, eo45⟩ := Kd.R_slice HO368.out; subst eo45))
                        (try simp only [Act.put, List.setIfInBounds_toArray, List.set_cons_zero, List.set_cons_succ])
                        go_cut [18] (fun v18 wc => ∃ (kq : Nat) (x18_38 : Int), v18 = .int .i64 x18_38 ∧ Aside0 (stooklaw21_ShardCut.j4 kq a0 l3 x9_1 t371 (t342.length : Int) x12_1 ji35 x18_38 t365 t366 t369 t370 = some r) ∧ Aside0 (kq ≤ kj31) ∧ Aside0 (Kd.R (Kd.int .u8) 5 wc w.heap.size (fun _ => True) (.slice Ao40 x9_1.length co40) x9_1) ∧ Aside0 (Kd.R (Kd.int .i64) 3 wc w.heap.size (fun k_ => some k_ ≠ ((.slice Ao45 t366.length co45) : Value).ownBlock) u12 x12_1) ∧ Aside0 (Kd.R (Kd.int .i64) 3 wc w.heap.size (fun k_ => some k_ ≠ (u12 : Value).ownBlock) (.slice Ao45 t366.length co45) t366) ∧ Aside0 (wc.heap[gb372]? = some (.cells #[.int .i64 t365, (.slice Ao45 t366.length co45), .bool t369, .int .i64 t370] 33 (0, 0))) ∧ Aside0 (Below w.heap.size w wc))
                        case first => as_aux_lemma =>
                          have H := HC39.out
                          clear HC39
                          have H' := Aside0.mk H
                          clear H
                          go_wp2
                          go_loopg [18] kj31 (fun kq v18 w' => ∃ (x18_4 : Int), v18 = .int .i64 x18_4 ∧ Aside0 (stooklaw21_ShardCut.l1 kq a0 l3 x9_1 t371 (t342.length : Int) x12_1 ji35 x18_4 t365 t366 t369 t370 = some r) ∧ Aside0 (kq ≤ kj31) ∧ Aside0 (Kd.R (Kd.int .u8) 5 w' w.heap.size (fun _ => True) (.slice Ao40 x9_1.length co40) x9_1) ∧ Aside0 (Kd.R (Kd.int .i64) 3 w' w.heap.size (fun k_ => some k_ ≠ ((.slice Ao45 t366.length co45) : Value).ownBlock) u12 x12_1) ∧ Aside0 (Kd.R (Kd.int .i64) 3 w' w.heap.size (fun k_ => some k_ ≠ (u12 : Value).ownBlock) (.slice Ao45 t366.length co45) t366) ∧ Aside0 (w'.heap[gb372]? = some (.cells #[.int .i64 t365, (.slice Ao45 t366.length co45), .bool t369, .int .i64 t370] 33 (0, 0))) ∧ Aside0 (Below w.heap.size w w'))
                          case atStart => exact ⟨(0), (by first | rfl | (simp; done) | (simp [*]; done)), H', ⟨Nat.le_refl _⟩, ⟨by (with_reducible repeat (first | apply Kd.R_alloc | apply Kd.R_drewN | apply Kd.R_drew)); exact Kd.R_mono (Kd.R_far (p := ⟨gb372, 3, none⟩) (Kd.R_far (p := ⟨gb372, 2, none⟩) (Kd.R_far (p := ⟨gb372, 1, none⟩) (Kd.R_far (p := ⟨gb372, 0, none⟩) (Kd.R_types HO_9.out BK372.out (by decide)) (fun _ hk => hk.2) (.int .i64 t365)) (fun _ hk => hk.2) (.slice Ao45 t366.length co45)) (fun _ hk => hk.2) (.bool t369)) (fun _ hk => hk.2) (.int .i64 t370)) (fun _ hk => trivial)⟩, ⟨by (with_reducible repeat (first | apply Kd.R_alloc | apply Kd.R_drewN | apply Kd.R_drew)); exact Kd.R_mono (Kd.R_far (p := ⟨gb372, 3, none⟩) (Kd.R_far (p := ⟨gb372, 2, none⟩) (Kd.R_far (p := ⟨gb372, 1, none⟩) (Kd.R_far (p := ⟨gb372, 0, none⟩) (Kd.R_types HO_12.out BK372.out (by decide)) (fun _ hk => hk.2) (.int .i64 t365)) (fun _ hk => hk.2) (.slice Ao45 t366.length co45)) (fun _ hk => hk.2) (.bool t369)) (fun _ hk => hk.2) (.int .i64 t370)) (fun _ hk => hk.1.2)⟩, ⟨by (with_reducible repeat (first | apply Kd.R_alloc | apply Kd.R_drewN | apply Kd.R_drew)); exact Kd.R_mono (Kd.R_far (p := ⟨gb372, 3, none⟩) (Kd.R_far (p := ⟨gb372, 2, none⟩) (Kd.R_far (p := ⟨gb372, 1, none⟩) (Kd.R_far (p := ⟨gb372, 0, none⟩) (Kd.R_types HO368.out BK372.out (by decide)) (fun _ hk => hk.2) (.int .i64 t365)) (fun _ hk => hk.2) (.slice Ao45 t366.length co45)) (fun _ hk => hk.2) (.bool t369)) (fun _ hk => hk.2) (.int .i64 t370)) (fun _ hk => hk.1.2)⟩, ⟨by (with_reducible repeat (first | refine blk_drewN ?_ _ | refine blk_drew ?_ | refine blk_alloc ?_ _)); refine blk_put (cs := #[.int .i64 t365, .slice Ao45 t366.length co45, .bool t369, .int .i64 0]) ?_ 3 _ rfl; (with_reducible repeat (first | refine blk_drewN ?_ _ | refine blk_drew ?_ | refine blk_alloc ?_ _)); refine blk_put (cs := #[.int .i64 t365, .slice Ao45 t366.length co45, .bool false, .int .i64 0]) ?_ 2 _ rfl; (with_reducible repeat (first | refine blk_drewN ?_ _ | refine blk_drew ?_ | refine blk_alloc ?_ _)); refine blk_put (cs := #[.int .i64 t365, .slice none 0 0, .bool false, .int .i64 0]) ?_ 1 _ rfl; (with_reducible repeat (first | refine blk_drewN ?_ _ | refine blk_drew ?_ | refine blk_alloc ?_ _)); refine blk_put (cs := #[.int .i64 0, .slice none 0 0, .bool false, .int .i64 0]) ?_ 0 _ rfl; (with_reducible repeat (first | refine blk_drewN ?_ _ | refine blk_drew ?_ | refine blk_alloc ?_ _)); exact BK372.out⟩, ⟨by repeat (first | (with_reducible first | exact HB.out | apply below_alloc | apply pw_below_drewN | apply below_drew1 | refine below_set ?_ GE372.out) | exact HB.out)⟩⟩
                          case round => as_aux_lemma =>
                            clear H'
                            try clear c1
                            try clear c2
                            try clear p2
                            try clear c3
                            try clear p3
                            try clear q3
                            try clear hx3
                            try clear q4
                            try clear c5
                            try clear c6
                            try clear c6b0
                            try clear c6b1
                            try clear p6
                            try clear c9
                            try clear c10
                            try clear c10b0
                            try clear c11
                            try clear c11b0
                            try clear c12
                            try clear c12b0
                            try clear c13
                            try clear c14
                            try clear c14b0
                            try clear c15
                            try clear c15b0
                            try clear c16
                            try clear c17
                            try clear c17b0
                            try clear c17b1
                            try clear c19
                            try clear c19b0
                            try clear c19b1
                            try clear c20
                            try clear c21
                            try clear c33
                            try clear c33b0
                            try clear c34
                            try clear c34b0
                            try clear c34b1
                            try clear p34
                            try clear q34
                            try clear hx34
                            try clear c35
                            try clear p35
                            try clear q35
                            try clear hx35
                            try clear c36
                            try clear c36b0
                            try clear c36b1
                            try clear c37
                            try clear c37b0
                            try clear c37b1
                            try clear q41
                            try clear hcz44_0
                            try clear hcz44_1
                            try clear hcz44_2
                            try clear hcz44_3
                            try clear hfz44_0
                            try clear hfz44_1
                            try clear hfz44_2
                            try clear hfz44_3
                            try clear hx347_0
                            try clear hx348_0
                            try clear hx353_0
                            try clear p2
                            try clear p3
                            try clear p347
                            try clear p348
                            try clear p353
                            try clear p6
                            try clear q3
                            try clear q347
                            try clear q348
                            try clear q353
                            try clear q41
                            obtain ⟨x18_4, rfl, HA, HK4, HO_9, HO_12, HO_373001, BK372, HB⟩ := hrel
                            cases gk with
                            | zero => exact absurd HA.out (by simp [stooklaw21_ShardCut.l1])
                            | succ k4 =>
                              have H := HA.out
                              clear HA
                              simp only [stooklaw21_ShardCut.l1] at H
                              by_cases c46 : x18_4 < (x12_1.length : Int)
                              · rw [if_pos c46] at H
                                have c46b0 : decide (x18_4 < (x12_1.length : Int)) = true := decide_eq_true c46
                                clear c46
                                (first | rw [c46b0] | (simp only [i64_w, i32_w]; rw [c46b0]) | skip)
                                by_cases c47 : 0 ≤ x18_4
                                · rw [if_pos c47] at H
                                  have c47b0 : decide (0 ≤ x18_4) = true := decide_eq_true c47
                                  clear c47
                                  by_cases c48 : (rd x12_1 x18_4) ≤ ji35
                                  · rw [if_pos c48] at H
                                    have c48b0 : decide ((rd x12_1 x18_4) ≤ ji35) = true := decide_eq_true c48
                                    clear c48
                                    have H' := Aside0.mk H
                                    clear H
                                    obtain ⟨Ao49, co49, eo49⟩ := Kd.R_slice HO_12.out
                                    subst eo49
                                    have p373 : 0 ≤ (x18_4 : Int) := of_decide_eq_true (by first | (with_reducible assumption) | assumption)
                                    have q373 : x18_4 < (x12_1.length : Int) := of_decide_eq_true (by first | (with_reducible assumption) | assumption)
                                    obtain ⟨ad373, e373, hx373_0⟩ := Kd.at_int (Kd.R_reads' HO_12.out).2.2 x18_4 p373 q373
                                    cases e373
                                    replace p373 := eq_true p373
                                    replace q373 := eq_true q373
                                    go_wp2
                                    go_roundg k4
                                    case measure => have := HK1.out; have := HJ8.out; have := HJ31.out; have := HK4.out; omega
                                    case rel => exact ⟨(wrap64 (x18_4 + 1)), (by first | rfl | (simp; done) | (simp [*]; done)), H', ⟨by have := HK1.out; have := HJ8.out; have := HJ31.out; have := HK4.out; omega⟩, ⟨by (with_reducible repeat (first | apply Kd.R_alloc | apply Kd.R_drewN | apply Kd.R_drew)); exact HO_9.out⟩, ⟨by (with_reducible repeat (first | apply Kd.R_alloc | apply Kd.R_drewN | apply Kd.R_drew)); exact HO_12.out⟩, ⟨by (with_reducible repeat (first | apply Kd.R_alloc | apply Kd.R_drewN | apply Kd.R_drew)); exact HO_373001.out⟩, ⟨by (with_reducible repeat (first | refine blk_drewN ?_ _ | refine blk_drew ?_ | refine blk_alloc ?_ _)); exact BK372.out⟩, ⟨by repeat (first | (with_reducible first | exact HB.out | apply below_alloc | apply pw_below_drewN | apply below_drew1 | refine below_set ?_ GE372.out) | exact HB.out)⟩⟩
                                  · rw [if_neg c48] at H
                                    have c48b0 : decide ((rd x12_1 x18_4) ≤ ji35) = false := decide_eq_false c48
                                    clear c48
                                    have H' := Aside0.mk H
                                    clear H
                                    obtain ⟨Ao50, co50, eo50⟩ := Kd.R_slice HO_12.out
                                    subst eo50
                                    have p373 : 0 ≤ (x18_4 : Int) := of_decide_eq_true (by first | (with_reducible assumption) | assumption)
                                    have q373 : x18_4 < (x12_1.length : Int) := of_decide_eq_true (by first | (with_reducible assumption) | assumption)
                                    obtain ⟨ad373, e373, hx373_0⟩ := Kd.at_int (Kd.R_reads' HO_12.out).2.2 x18_4 p373 q373
                                    cases e373
                                    replace p373 := eq_true p373
                                    replace q373 := eq_true q373
                                    go_wp2
                                    go_meet
                                    case rel => exact ⟨_, (x18_4), (by first | rfl | (simp; done) | (simp [*]; done)), H', ⟨by have := HK1.out; have := HJ8.out; have := HJ31.out; have := HK4.out; first | omega | exact Nat.le_refl _⟩, ⟨by (with_reducible repeat (first | apply Kd.R_alloc | apply Kd.R_drewN | apply Kd.R_drew)); exact HO_9.out⟩, ⟨by (with_reducible repeat (first | apply Kd.R_alloc | apply Kd.R_drewN | apply Kd.R_drew)); exact HO_12.out⟩, ⟨by (with_reducible repeat (first | apply Kd.R_alloc | apply Kd.R_drewN | apply Kd.R_drew)); exact HO_373001.out⟩, ⟨by (with_reducible repeat (first | refine blk_drewN ?_ _ | refine blk_drew ?_ | refine blk_alloc ?_ _)); exact BK372.out⟩, ⟨by repeat (first | (with_reducible first | exact HB.out | apply below_alloc | apply pw_below_drewN | apply below_drew1 | refine below_set ?_ GE372.out) | exact HB.out)⟩⟩
                                · rw [if_neg c47] at H
                                  exact absurd H (by simp)
                              · rw [if_neg c46] at H
                                have c46b0 : decide (x18_4 < (x12_1.length : Int)) = false := decide_eq_false c46
                                clear c46
                                (first | rw [c46b0] | (simp only [i64_w, i32_w]; rw [c46b0]) | skip)
                                have H' := Aside0.mk H
                                clear H
                                obtain ⟨Ao51, co51, eo51⟩ := Kd.R_slice HO_12.out
                                subst eo51
                                go_wp2
                                go_meet
                                case rel => exact ⟨_, (x18_4), (by first | rfl | (simp; done) | (simp [*]; done)), H', ⟨by have := HK1.out; have := HJ8.out; have := HJ31.out; have := HK4.out; first | omega | exact Nat.le_refl _⟩, ⟨by (with_reducible repeat (first | apply Kd.R_alloc | apply Kd.R_drewN | apply Kd.R_drew)); exact HO_9.out⟩, ⟨by (with_reducible repeat (first | apply Kd.R_alloc | apply Kd.R_drewN | apply Kd.R_drew)); exact HO_12.out⟩, ⟨by (with_reducible repeat (first | apply Kd.R_alloc | apply Kd.R_drewN | apply Kd.R_drew)); exact HO_373001.out⟩, ⟨by (with_reducible repeat (first | refine blk_drewN ?_ _ | refine blk_drew ?_ | refine blk_alloc ?_ _)); exact BK372.out⟩, ⟨by repeat (first | (with_reducible first | exact HB.out | apply below_alloc | apply pw_below_drewN | apply below_drew1 | refine below_set ?_ GE372.out) | exact HB.out)⟩⟩
                        case rest => as_aux_lemma =>
                          clear HC39
                          try clear c1
                          try clear c2
                          try clear p2
                          try clear c3
                          try clear p3
                          try clear q3
                          try clear hx3
                          try clear c4
                          try clear q4
                          try clear c5
                          try clear c6
                          try clear c6b0
                          try clear c6b1
                          try clear p6
                          try clear c9
                          try clear c10
                          try clear c10b0
                          try clear c11
                          try clear c11b0
                          try clear c12
                          try clear c12b0
                          try clear c13
                          try clear c14
                          try clear c14b0
                          try clear c15
                          try clear c15b0
                          try clear c16
                          try clear c17
                          try clear c17b0
                          try clear c17b1
                          try clear c19
                          try clear c19b0
                          try clear c19b1
                          try clear c20
                          try clear c21
                          try clear c33
                          try clear c33b0
                          try clear c34
                          try clear c34b0
                          try clear c34b1
                          try clear p34
                          try clear q34
                          try clear hx34
                          try clear c35
                          try clear p35
                          try clear q35
                          try clear hx35
                          try clear c36
                          try clear c36b0
                          try clear c36b1
                          try clear c37
                          try clear c37b0
                          try clear c37b1
                          try clear p37
                          try clear q37
                          try clear hx37
                          try clear q41
                          try clear c46
                          try clear c46b0
                          try clear c47
                          try clear c47b0
                          try clear c48
                          try clear c48b0
                          try clear hcz44_0
                          try clear hcz44_1
                          try clear hcz44_2
                          try clear hcz44_3
                          try clear hfz44_0
                          try clear hfz44_1
                          try clear hfz44_2
                          try clear hfz44_3
                          try clear hx347_0
                          try clear hx348_0
                          try clear hx353_0
                          try clear hx373_0
                          try clear p2
                          try clear p3
                          try clear p34
                          try clear p347
                          try clear p348
                          try clear p35
                          try clear p353
                          try clear p373
                          try clear p6
                          try clear q3
                          try clear q34
                          try clear q347
                          try clear q348
                          try clear q35
                          try clear q353
                          try clear q373
                          try clear q4
                          try clear q41
                          obtain ⟨kq, x18_38, rfl, HA, HJ38, HO_9, HO_12, HO_373001, BK372, HB⟩ := hcut
                          cases kq with
                          | zero => exact absurd HA.out (by simp [stooklaw21_ShardCut.j4])
                          | succ kj38 =>
                            have H := HA.out
                            clear HA
                            simp only [stooklaw21_ShardCut.j4] at H
                            have HC52 := Aside0.mk H
                            clear H
                            go_upto_region 21 with (fail)
                            go_cut [137] (fun v137 wc => ∃ (kq : Nat) (x137_51 : Bool), v137 = .bool x137_51 ∧ Aside0 (stooklaw21_ShardCut.j5 kq l3 x9_1 x12_1 x137_51 = some r) ∧ Aside0 (kq ≤ kj38) ∧ Aside0 (Kd.R (Kd.int .u8) 5 wc w.heap.size (fun _ => True) (.slice Ao40 x9_1.length co40) x9_1) ∧ Aside0 (Kd.R (Kd.int .i64) 3 wc w.heap.size (fun k_ => some k_ ≠ ((.slice Ao45 t366.length co45) : Value).ownBlock) u12 x12_1) ∧ Aside0 (Kd.R (Kd.int .i64) 3 wc w.heap.size (fun k_ => some k_ ≠ (u12 : Value).ownBlock) (.slice Ao45 t366.length co45) t366) ∧ Aside0 (wc.heap[gb372]? = some (.cells #[.int .i64 t365, (.slice Ao45 t366.length co45), .bool t369, .int .i64 t370] 33 (0, 0))) ∧ Aside0 (Below w.heap.size w wc))
                            case first => as_aux_lemma =>
                              have H := HC52.out
                              clear HC52
                              by_cases c53 : ((t371 == 0) != (decide (ji35 ≥ (t342.length : Int)))) = true
                              · rw [if_pos c53] at H
                                have c53b0 : ((t371 == 0) != (decide (ji35 ≥ (t342.length : Int)))) = true := c53
                                (try (have c53b1 : decide ((t371 == 0) = (decide (ji35 ≥ (t342.length : Int)))) = false := by simpa using c53))
                                (try (have c53b2 : ((t371 == 0) == (decide (ji35 ≥ (t342.length : Int)))) = false := by simpa using c53))
                                (try (have c53b3 : ¬ ((t371 == 0) = (decide (ji35 ≥ (t342.length : Int)))) := by simpa using c53))
                                clear c53
                                (first | rw [c53b0] | (simp only [i64_w, i32_w]; rw [c53b0]) | skip)
                                have H' := Aside0.mk H
                                clear H
                                go_wp2
                                go_meet
                                case rel => exact ⟨_, (true), (by first | rfl | (simp; done) | (simp [*]; done)), H', ⟨by have := HK1.out; have := HJ8.out; have := HJ31.out; have := HJ38.out; first | omega | exact Nat.le_refl _⟩, ⟨by (with_reducible repeat (first | apply Kd.R_alloc | apply Kd.R_drewN | apply Kd.R_drew)); exact HO_9.out⟩, ⟨by (with_reducible repeat (first | apply Kd.R_alloc | apply Kd.R_drewN | apply Kd.R_drew)); exact HO_12.out⟩, ⟨by (with_reducible repeat (first | apply Kd.R_alloc | apply Kd.R_drewN | apply Kd.R_drew)); exact HO_373001.out⟩, ⟨by (with_reducible repeat (first | refine blk_drewN ?_ _ | refine blk_drew ?_ | refine blk_alloc ?_ _)); exact BK372.out⟩, ⟨by repeat (first | (with_reducible first | exact HB.out | apply below_alloc | apply pw_below_drewN | apply below_drew1 | refine below_set ?_ GE372.out) | exact HB.out)⟩⟩
                              · rw [if_neg c53] at H
                                have c53b0 : ((t371 == 0) != (decide (ji35 ≥ (t342.length : Int)))) = false := by simpa using c53
                                (try (have c53b1 : decide ((t371 == 0) = (decide (ji35 ≥ (t342.length : Int)))) = true := by simpa using c53))
                                (try (have c53b2 : ((t371 == 0) == (decide (ji35 ≥ (t342.length : Int)))) = true := by simpa using c53))
                                clear c53
                                (first | rw [c53b0] | (simp only [i64_w, i32_w]; rw [c53b0]) | skip)
                                by_cases c54 : t371 = 0
                                · rw [if_pos c54] at H
                                  have c54b0 : (t371 == 0) = true := beq_iff_eq.mpr c54
                                  have c54b1 : (t371 != 0) = false := bne_eq_false_iff_eq.mpr c54
                                  clear c54
                                  by_cases c55 : (t366.length : Int) = x18_38
                                  · rw [if_pos c55] at H
                                    have c55b0 : ((t366.length : Int) == x18_38) = true := beq_iff_eq.mpr c55
                                    have c55b1 : ((t366.length : Int) != x18_38) = false := bne_eq_false_iff_eq.mpr c55
                                    clear c55
                                    by_cases c56 : t369 = true
                                    · subst c56
                                      have H1 : (stooklaw21_ShardCut.j5 kj38 l3 x9_1 x12_1 true) = some r := by rw [if_pos rfl] at H; exact H
                                      clear H
                                      have H := H1
                                      clear H1
                                      have H' := Aside0.mk H
                                      clear H
                                      have hcz57_0 : wc.cell? ⟨gb372, 0, none⟩ = some (.int .i64 t365) := (blk_cell BK372.out 0).trans rfl
                                      have hcz57_1 : wc.cell? ⟨gb372, 1, none⟩ = some (.slice Ao45 t366.length co45) := (blk_cell BK372.out 1).trans rfl
                                      have hcz57_2 : wc.cell? ⟨gb372, 2, none⟩ = some (.bool true) := (blk_cell BK372.out 2).trans rfl
                                      have hcz57_3 : wc.cell? ⟨gb372, 3, none⟩ = some (.int .i64 t370) := (blk_cell BK372.out 3).trans rfl
                                      have hfz57_0 := blk_frozen BK372.out 0
                                      have hfz57_1 := blk_frozen BK372.out 1
                                      have hfz57_2 := blk_frozen BK372.out 2
                                      have hfz57_3 := blk_frozen BK372.out 3
                                      go_wp2
                                      go_meet
                                      case rel => exact ⟨_, (true), (by first | rfl | (simp; done) | (simp [*]; done)), H', ⟨by have := HK1.out; have := HJ8.out; have := HJ31.out; have := HJ38.out; first | omega | exact Nat.le_refl _⟩, ⟨by (with_reducible repeat (first | apply Kd.R_alloc | apply Kd.R_drewN | apply Kd.R_drew)); exact HO_9.out⟩, ⟨by (with_reducible repeat (first | apply Kd.R_alloc | apply Kd.R_drewN | apply Kd.R_drew)); exact HO_12.out⟩, ⟨by (with_reducible repeat (first | apply Kd.R_alloc | apply Kd.R_drewN | apply Kd.R_drew)); exact HO_373001.out⟩, ⟨by (with_reducible repeat (first | refine blk_drewN ?_ _ | refine blk_drew ?_ | refine blk_alloc ?_ _)); exact BK372.out⟩, ⟨by repeat (first | (with_reducible first | exact HB.out | apply below_alloc | apply pw_below_drewN | apply below_drew1 | refine below_set ?_ GE372.out) | exact HB.out)⟩⟩
                                      all_goals (exfalso; rw [c54b0] at c53b0; first | (have hz_ := of_decide_eq_true (show decide (ji35 ≥ (t342.length : Int)) = true by simpa using c53b0); omega) | (have hz_ := of_decide_eq_false (show decide (ji35 ≥ (t342.length : Int)) = false by simpa using c53b0); omega))
                                    · replace c56 := Bool.eq_false_iff.mpr c56
                                      subst c56
                                      have H1 : (stooklaw21_ShardCut.j5 kj38 l3 x9_1 x12_1 (t365 != a0)) = some r := by rw [if_neg (show ¬ (false = true) by decide)] at H; exact H
                                      clear H
                                      have H := H1
                                      clear H1
                                      have H' := Aside0.mk H
                                      clear H
                                      have hcz58_0 : wc.cell? ⟨gb372, 0, none⟩ = some (.int .i64 t365) := (blk_cell BK372.out 0).trans rfl
                                      have hcz58_1 : wc.cell? ⟨gb372, 1, none⟩ = some (.slice Ao45 t366.length co45) := (blk_cell BK372.out 1).trans rfl
                                      have hcz58_2 : wc.cell? ⟨gb372, 2, none⟩ = some (.bool false) := (blk_cell BK372.out 2).trans rfl
                                      have hcz58_3 : wc.cell? ⟨gb372, 3, none⟩ = some (.int .i64 t370) := (blk_cell BK372.out 3).trans rfl
                                      have hfz58_0 := blk_frozen BK372.out 0
                                      have hfz58_1 := blk_frozen BK372.out 1
                                      have hfz58_2 := blk_frozen BK372.out 2
                                      have hfz58_3 := blk_frozen BK372.out 3
                                      go_wp2
                                      go_meet
                                      case rel => exact ⟨_, ((t365 != a0)), (by first | rfl | (simp; done) | (simp [*]; done)), H', ⟨by have := HK1.out; have := HJ8.out; have := HJ31.out; have := HJ38.out; first | omega | exact Nat.le_refl _⟩, ⟨by (with_reducible repeat (first | apply Kd.R_alloc | apply Kd.R_drewN | apply Kd.R_drew)); exact HO_9.out⟩, ⟨by (with_reducible repeat (first | apply Kd.R_alloc | apply Kd.R_drewN | apply Kd.R_drew)); exact HO_12.out⟩, ⟨by (with_reducible repeat (first | apply Kd.R_alloc | apply Kd.R_drewN | apply Kd.R_drew)); exact HO_373001.out⟩, ⟨by (with_reducible repeat (first | refine blk_drewN ?_ _ | refine blk_drew ?_ | refine blk_alloc ?_ _)); exact BK372.out⟩, ⟨by repeat (first | (with_reducible first | exact HB.out | apply below_alloc | apply pw_below_drewN | apply below_drew1 | refine below_set ?_ GE372.out) | exact HB.out)⟩⟩
                                      all_goals (exfalso; rw [c54b0] at c53b0; first | (have hz_ := of_decide_eq_true (show decide (ji35 ≥ (t342.length : Int)) = true by simpa using c53b0); omega) | (have hz_ := of_decide_eq_false (show decide (ji35 ≥ (t342.length : Int)) = false by simpa using c53b0); omega))
                                  · rw [if_neg c55] at H
                                    have c55b0 : ((t366.length : Int) == x18_38) = false := beq_eq_false_iff_ne.mpr c55
                                    have c55b1 : ((t366.length : Int) != x18_38) = true := bne_iff_ne.mpr c55
                                    have H' := Aside0.mk H
                                    clear H
                                    have hcz59_0 : wc.cell? ⟨gb372, 0, none⟩ = some (.int .i64 t365) := (blk_cell BK372.out 0).trans rfl
                                    have hcz59_1 : wc.cell? ⟨gb372, 1, none⟩ = some (.slice Ao45 t366.length co45) := (blk_cell BK372.out 1).trans rfl
                                    have hcz59_2 : wc.cell? ⟨gb372, 2, none⟩ = some (.bool t369) := (blk_cell BK372.out 2).trans rfl
                                    have hcz59_3 : wc.cell? ⟨gb372, 3, none⟩ = some (.int .i64 t370) := (blk_cell BK372.out 3).trans rfl
                                    have hfz59_0 := blk_frozen BK372.out 0
                                    have hfz59_1 := blk_frozen BK372.out 1
                                    have hfz59_2 := blk_frozen BK372.out 2
                                    have hfz59_3 := blk_frozen BK372.out 3
                                    go_wp2
                                    go_meet
                                    case rel => exact ⟨_, (true), (by first | rfl | (simp; done) | (simp [*]; done)), H', ⟨by have := HK1.out; have := HJ8.out; have := HJ31.out; have := HJ38.out; first | omega | exact Nat.le_refl _⟩, ⟨by (with_reducible repeat (first | apply Kd.R_alloc | apply Kd.R_drewN | apply Kd.R_drew)); exact HO_9.out⟩, ⟨by (with_reducible repeat (first | apply Kd.R_alloc | apply Kd.R_drewN | apply Kd.R_drew)); exact HO_12.out⟩, ⟨by (with_reducible repeat (first | apply Kd.R_alloc | apply Kd.R_drewN | apply Kd.R_drew)); exact HO_373001.out⟩, ⟨by (with_reducible repeat (first | refine blk_drewN ?_ _ | refine blk_drew ?_ | refine blk_alloc ?_ _)); exact BK372.out⟩, ⟨by repeat (first | (with_reducible first | exact HB.out | apply below_alloc | apply pw_below_drewN | apply below_drew1 | refine below_set ?_ GE372.out) | exact HB.out)⟩⟩
                                    all_goals (exfalso; rw [c54b0] at c53b0; first | (have hz_ := of_decide_eq_true (show decide (ji35 ≥ (t342.length : Int)) = true by simpa using c53b0); omega) | (have hz_ := of_decide_eq_false (show decide (ji35 ≥ (t342.length : Int)) = false by simpa using c53b0); omega))
                                · rw [if_neg c54] at H
                                  have c54b0 : (t371 == 0) = false := beq_eq_false_iff_ne.mpr c54
                                  have c54b1 : (t371 != 0) = true := bne_iff_ne.mpr c54
                                  have H' := Aside0.mk H
                                  clear H
                                  go_wp2
                                  go_meet
                                  case rel => exact ⟨_, (false), (by first | rfl | (simp; done) | (simp [*]; done)), H', ⟨by have := HK1.out; have := HJ8.out; have := HJ31.out; have := HJ38.out; first | omega | exact Nat.le_refl _⟩, ⟨by (with_reducible repeat (first | apply Kd.R_alloc | apply Kd.R_drewN | apply Kd.R_drew)); exact HO_9.out⟩, ⟨by (with_reducible repeat (first | apply Kd.R_alloc | apply Kd.R_drewN | apply Kd.R_drew)); exact HO_12.out⟩, ⟨by (with_reducible repeat (first | apply Kd.R_alloc | apply Kd.R_drewN | apply Kd.R_drew)); exact HO_373001.out⟩, ⟨by (with_reducible repeat (first | refine blk_drewN ?_ _ | refine blk_drew ?_ | refine blk_alloc ?_ _)); exact BK372.out⟩, ⟨by repeat (first | (with_reducible first | exact HB.out | apply below_alloc | apply pw_below_drewN | apply below_drew1 | refine below_set ?_ GE372.out) | exact HB.out)⟩⟩
                                  all_goals (exfalso; rw [c54b0] at c53b0; first | (have hz_ := of_decide_eq_true (show decide (ji35 ≥ (t342.length : Int)) = true by simpa using c53b0); omega) | (have hz_ := of_decide_eq_false (show decide (ji35 ≥ (t342.length : Int)) = false by simpa using c53b0); omega))
                            case rest => as_aux_lemma =>
                              clear HC52
                              try clear c1
                              try clear c2
                              try clear p2
                              try clear c3
                              try clear p3
                              try clear q3
                              try clear hx3
                              try clear c4
                              try clear q4
                              try clear c5
                              try clear c6
                              try clear c6b0
                              try clear c6b1
                              try clear p6
                              try clear c9
                              try clear c10
                              try clear c10b0
                              try clear c11
                              try clear c11b0
                              try clear c12
                              try clear c12b0
                              try clear c13
                              try clear c14
                              try clear c14b0
                              try clear c15
                              try clear c15b0
                              try clear c16
                              try clear c17
                              try clear c17b0
                              try clear c17b1
                              try clear c19
                              try clear c19b0
                              try clear c19b1
                              try clear c20
                              try clear c21
                              try clear c33
                              try clear c33b0
                              try clear c34
                              try clear c34b0
                              try clear c34b1
                              try clear p34
                              try clear q34
                              try clear hx34
                              try clear c35
                              try clear p35
                              try clear q35
                              try clear hx35
                              try clear c36
                              try clear c36b0
                              try clear c36b1
                              try clear c37
                              try clear c37b0
                              try clear c37b1
                              try clear p37
                              try clear q37
                              try clear hx37
                              try clear q41
                              try clear c46
                              try clear c46b0
                              try clear c47
                              try clear c47b0
                              try clear c48
                              try clear c48b0
                              try clear c53
                              try clear c53b0
                              try clear c53b1
                              try clear c53b2
                              try clear c54
                              try clear c54b0
                              try clear c54b1
                              try clear c55
                              try clear c55b0
                              try clear c55b1
                              try clear c56
                              try clear hcz44_0
                              try clear hcz44_1
                              try clear hcz44_2
                              try clear hcz44_3
                              try clear hcz57_0
                              try clear hcz57_1
                              try clear hcz57_2
                              try clear hcz57_3
                              try clear hcz58_0
                              try clear hcz58_1
                              try clear hcz58_2
                              try clear hcz58_3
                              try clear hcz59_0
                              try clear hcz59_1
                              try clear hcz59_2
                              try clear hcz59_3
                              try clear hfz44_0
                              try clear hfz44_1
                              try clear hfz44_2
                              try clear hfz44_3
                              try clear hfz57_0
                              try clear hfz57_1
                              try clear hfz57_2
                              try clear hfz57_3
                              try clear hfz58_0
                              try clear hfz58_1
                              try clear hfz58_2
                              try clear hfz58_3
                              try clear hfz59_0
                              try clear hfz59_1
                              try clear hfz59_2
                              try clear hfz59_3
                              try clear hx347_0
                              try clear hx348_0
                              try clear hx353_0
                              try clear hx373_0
                              try clear p2
                              try clear p3
                              try clear p34
                              try clear p347
                              try clear p348
                              try clear p35
                              try clear p353
                              try clear p37
                              try clear p373
                              try clear p6
                              try clear q3
                              try clear q34
                              try clear q347
                              try clear q348
                              try clear q35
                              try clear q353
                              try clear q37
                              try clear q373
                              try clear q4
                              try clear q41
                              obtain ⟨kq, x137_51, rfl, HA, HJ51, HO_9, HO_12, HO_373001, BK372, HB⟩ := hcut
                              cases kq with
                              | zero => exact absurd HA.out (by simp [stooklaw21_ShardCut.j5])
                              | succ kj51 =>
                                have H := HA.out
                                clear HA
                                simp only [stooklaw21_ShardCut.j5] at H
                                by_cases c60 : x137_51 = true
                                · subst c60
                                  have H1 : (some false) = some r := by rw [if_pos rfl] at H; exact H
                                  clear H
                                  have H := H1
                                  clear H1
                                  exact absurd ((Option.some.inj H).trans HRT.out) (by decide)
                                · replace c60 := Bool.eq_false_iff.mpr c60
                                  subst c60
                                  have H1 : ((shard_Foot.f kj51 x9_1).bind fun bt374 => (if bt374.2 = 0 then (if x9_1.length + bt374.1.length < 140737488355328 then ((some (x9_1 ++ bt374.1 : List Int)).bind fun y378 => ((shard_Scan.f kj51 y378).bind fun bt381 => ((stookref00_Copy.f y378).bind fun t388 => (if t388.length + l3.length < 140737488355328 then ((shard_Scan.f kj51 (t388 ++ l3)).bind fun bt394 => (if bt381.2.2.2.2 = 0 then (if bt394.2.2.2.2 = 0 then ((stookref21_Same.f kj51 bt381.1 bt381.2.1 bt381.2.2.1 bt381.2.2.2.1 bt394.1 bt394.2.1 bt394.2.2.1 bt394.2.2.2.1).bind fun t402 => (if t402 = true then (if bt381.2.2.1 = true then (if bt381.2.2.2.1 = (y378.length : Int) then (if (bt381.2.1.length : Int) = (x12_1.length : Int) then ((stooklaw21_lives.f kj51).bind fun t403 => (some t403)) else (some false)) else (some false)) else (some false)) else (some false))) else (some false)) else (some false))) else (none))))) else (none)) else (some false))) = some r := by rw [if_neg (show ¬ (false = true) by decide)] at H; exact H
                                  clear H
                                  have H := H1
                                  clear H1
                                  replace H := Option.bind_eq_some_iff.mp H
                                  obtain ⟨⟨t374, t375⟩, A610, H⟩ := H
                                  replace H : (if t375 = 0 then (if x9_1.length + t374.length < 140737488355328 then ((some (x9_1 ++ t374 : List Int)).bind fun y378 => ((shard_Scan.f kj51 y378).bind fun bt381 => ((stookref00_Copy.f y378).bind fun t388 => (if t388.length + l3.length < 140737488355328 then ((shard_Scan.f kj51 (t388 ++ l3)).bind fun bt394 => (if bt381.2.2.2.2 = 0 then (if bt394.2.2.2.2 = 0 then ((stookref21_Same.f kj51 bt381.1 bt381.2.1 bt381.2.2.1 bt381.2.2.2.1 bt394.1 bt394.2.1 bt394.2.2.1 bt394.2.2.2.1).bind fun t402 => (if t402 = true then (if bt381.2.2.1 = true then (if bt381.2.2.2.1 = (y378.length : Int) then (if (bt381.2.1.length : Int) = (x12_1.length : Int) then ((stooklaw21_lives.f kj51).bind fun t403 => (some t403)) else (some false)) else (some false)) else (some false)) else (some false))) else (some false)) else (some false))) else (none))))) else (none)) else (some false)) = some r := H
                                  have A61 := Aside0.mk A610
                                  clear A610
                                  by_cases c62 : t375 = 0
                                  · rw [if_pos c62] at H
                                    have c62b0 : (t375 == 0) = true := beq_iff_eq.mpr c62
                                    have c62b1 : (t375 != 0) = false := bne_eq_false_iff_eq.mpr c62
                                    clear c62
                                    by_cases c63 : x9_1.length + t374.length < 140737488355328
                                    · rw [if_pos c63] at H
                                      have LMc63 := Aside0.mk c63
                                      clear c63
                                      obtain ⟨y378, hy378⟩ : ∃ y_ : List Int, y_ = (x9_1 ++ t374) := ⟨_, rfl⟩
                                      replace H : ((shard_Scan.f kj51 y378).bind fun bt381 => ((stookref00_Copy.f y378).bind fun t388 => (if t388.length + l3.length < 140737488355328 then ((shard_Scan.f kj51 (t388 ++ l3)).bind fun bt394 => (if bt381.2.2.2.2 = 0 then (if bt394.2.2.2.2 = 0 then ((stookref21_Same.f kj51 bt381.1 bt381.2.1 bt381.2.2.1 bt381.2.2.2.1 bt394.1 bt394.2.1 bt394.2.2.1 bt394.2.2.2.1).bind fun t402 => (if t402 = true then (if bt381.2.2.1 = true then (if bt381.2.2.2.1 = (y378.length : Int) then (if (bt381.2.1.length : Int) = (x12_1.length : Int) then ((stooklaw21_lives.f kj51).bind fun t403 => (some t403)) else (some false)) else (some false)) else (some false)) else (some false))) else (some false)) else (some false))) else (none)))) = some r := by first | (rw [hy378]; with_reducible exact H) | (have H2_ := (Option.bind_some _ _).symm.trans H; rw [hy378]; with_reducible exact H2_) | (have H2_ := (Option.bind_some _ _).symm.trans H; with_reducible exact H2_) | with_reducible exact H | (rw [hy378]; exact H) | exact H
                                      have Ny378 := Aside0.mk hy378
                                      clear hy378
                                      replace H := Option.bind_eq_some_iff.mp H
                                      obtain ⟨⟨t381, t382, t385, t386, t387⟩, A640, H⟩ := H
                                      replace H : ((stookref00_Copy.f y378).bind fun t388 => (if t388.length + l3.length < 140737488355328 then ((shard_Scan.f kj51 (t388 ++ l3)).bind fun bt394 => (if t387 = 0 then (if bt394.2.2.2.2 = 0 then ((stookref21_Same.f kj51 t381 t382 t385 t386 bt394.1 bt394.2.1 bt394.2.2.1 bt394.2.2.2.1).bind fun t402 => (if t402 = true then (if t385 = true then (if t386 = (y378.length : Int) then (if (t382.length : Int) = (x12_1.length : Int) then ((stooklaw21_lives.f kj51).bind fun t403 => (some t403)) else (some false)) else (some false)) else (some false)) else (some false))) else (some false)) else (some false))) else (none))) = some r := H
                                      have A64 := Aside0.mk A640
                                      clear A640
                                      replace H := Option.bind_eq_some_iff.mp H
                                      obtain ⟨t388, A650, H⟩ := H
                                      replace H : (if t388.length + l3.length < 140737488355328 then ((shard_Scan.f kj51 (t388 ++ l3)).bind fun bt394 => (if t387 = 0 then (if bt394.2.2.2.2 = 0 then ((stookref21_Same.f kj51 t381 t382 t385 t386 bt394.1 bt394.2.1 bt394.2.2.1 bt394.2.2.2.1).bind fun t402 => (if t402 = true then (if t385 = true then (if t386 = (y378.length : Int) then (if (t382.length : Int) = (x12_1.length : Int) then ((stooklaw21_lives.f kj51).bind fun t403 => (some t403)) else (some false)) else (some false)) else (some false)) else (some false))) else (some false)) else (some false))) else (none)) = some r := H
                                      have A65 := Aside0.mk A650
                                      clear A650
                                      by_cases c66 : t388.length + l3.length < 140737488355328
                                      · rw [if_pos c66] at H
                                        have LMc66 := Aside0.mk c66
                                        clear c66
                                        obtain ⟨y391, hy391⟩ : ∃ y_ : List Int, y_ = (t388 ++ l3) := ⟨_, rfl⟩
                                        replace H : ((shard_Scan.f kj51 y391).bind fun bt394 => (if t387 = 0 then (if bt394.2.2.2.2 = 0 then ((stookref21_Same.f kj51 t381 t382 t385 t386 bt394.1 bt394.2.1 bt394.2.2.1 bt394.2.2.2.1).bind fun t402 => (if t402 = true then (if t385 = true then (if t386 = (y378.length : Int) then (if (t382.length : Int) = (x12_1.length : Int) then ((stooklaw21_lives.f kj51).bind fun t403 => (some t403)) else (some false)) else (some false)) else (some false)) else (some false))) else (some false)) else (some false))) = some r := by first | (rw [hy391]; with_reducible exact H) | (have H2_ := (Option.bind_some _ _).symm.trans H; rw [hy391]; with_reducible exact H2_) | (have H2_ := (Option.bind_some _ _).symm.trans H; with_reducible exact H2_) | with_reducible exact H | (rw [hy391]; exact H) | exact H
                                        have Ny391 := Aside0.mk hy391
                                        clear hy391
                                        replace H := Option.bind_eq_some_iff.mp H
                                        obtain ⟨⟨t394, t395, t398, t399, t400⟩, A670, H⟩ := H
                                        replace H : (if t387 = 0 then (if t400 = 0 then ((stookref21_Same.f kj51 t381 t382 t385 t386 t394 t395 t398 t399).bind fun t402 => (if t402 = true then (if t385 = true then (if t386 = (y378.length : Int) then (if (t382.length : Int) = (x12_1.length : Int) then ((stooklaw21_lives.f kj51).bind fun t403 => (some t403)) else (some false)) else (some false)) else (some false)) else (some false))) else (some false)) else (some false)) = some r := H
                                        have A67 := Aside0.mk A670
                                        clear A670
                                        by_cases c68 : t387 = 0
                                        · rw [if_pos c68] at H
                                          have c68b0 : (t387 == 0) = true := beq_iff_eq.mpr c68
                                          have c68b1 : (t387 != 0) = false := bne_eq_false_iff_eq.mpr c68
                                          clear c68
                                          by_cases c69 : t400 = 0
                                          · rw [if_pos c69] at H
                                            have c69b0 : (t400 == 0) = true := beq_iff_eq.mpr c69
                                            have c69b1 : (t400 != 0) = false := bne_eq_false_iff_eq.mpr c69
                                            clear c69
                                            replace H := Option.bind_eq_some_iff.mp H
                                            obtain ⟨t402, A700, H⟩ := H
                                            replace H : (if t402 = true then (if t385 = true then (if t386 = (y378.length : Int) then (if (t382.length : Int) = (x12_1.length : Int) then ((stooklaw21_lives.f kj51).bind fun t403 => (some t403)) else (some false)) else (some false)) else (some false)) else (some false)) = some r := H
                                            have A70 := Aside0.mk A700
                                            clear A700
                                            by_cases c71 : t402 = true
                                            · subst c71
                                              have H1 : (if t385 = true then (if t386 = (y378.length : Int) then (if (t382.length : Int) = (x12_1.length : Int) then ((stooklaw21_lives.f kj51).bind fun t403 => (some t403)) else (some false)) else (some false)) else (some false)) = some r := by rw [if_pos rfl] at H; exact H
                                              clear H
                                              have H := H1
                                              clear H1
                                              by_cases c72 : t385 = true
                                              · subst c72
                                                have H1 : (if t386 = (y378.length : Int) then (if (t382.length : Int) = (x12_1.length : Int) then ((stooklaw21_lives.f kj51).bind fun t403 => (some t403)) else (some false)) else (some false)) = some r := by rw [if_pos rfl] at H; exact H
                                                clear H
                                                have H := H1
                                                clear H1
                                                by_cases c73 : t386 = (y378.length : Int)
                                                · rw [if_pos c73] at H
                                                  have c73b0 : (t386 == (y378.length : Int)) = true := beq_iff_eq.mpr c73
                                                  have c73b1 : (t386 != (y378.length : Int)) = false := bne_eq_false_iff_eq.mpr c73
                                                  clear c73
                                                  by_cases c74 : (t382.length : Int) = (x12_1.length : Int)
                                                  · rw [if_pos c74] at H
                                                    have c74b0 : ((t382.length : Int) == (x12_1.length : Int)) = true := beq_iff_eq.mpr c74
                                                    have c74b1 : ((t382.length : Int) != (x12_1.length : Int)) = false := bne_eq_false_iff_eq.mpr c74
                                                    have c74b2 : (t382.length == x12_1.length) = true := by first | simpa using c74 | (simp at c74 ⊢; omega)
                                                    clear c74
                                                    replace H := Option.bind_eq_some_iff.mp H
                                                    obtain ⟨t403, A750, H⟩ := H
                                                    replace H : (some t403) = some r := H
                                                    have A75 := Aside0.mk A750
                                                    clear A750
                                                    obtain rfl := Option.some.inj H
                                                    go_wp2_with (first | ((with_reducible refine gate_callee (f := 19) rfl ?_); refine goesL_ (some 140) rfl rfl Try.func19 (by kernel_rfl) rfl #[.slice Ao40 x9_1.length co40] rfl (by (try simp only [List.map_toArray, List.map_cons, List.map_nil]); first | done | rfl | (simp only [List.length_drop, List.length_take]; rfl)) ?_; (with_reducible refine (shard_Foot.calls kj51 _ _ x9_1 t374 t375 _ ?side1 ?side2 A61.out).mono ?_); (case side1 => repeat (first | exact (Kd.R_reads' HO_9.out).2.2 | (with_reducible refine Kd.C_alloc ?_ _) | (with_reducible refine Kd.C_drewN ?_ _) | (with_reducible refine Kd.C_drew ?_))); (case side2 => exact (Kd.R_reads' HO_9.out).2.1); rintro e w76 ⟨v376, rfl, ho0, hb⟩; refine ⟨_, rfl, ?_⟩; have n0_ := Aside0.mk (Kd.R_elder' (by (with_reducible repeat (first | apply Kd.R_alloc | apply Kd.R_drewN | apply Kd.R_drew)); exact HO_9.out) (Kd.R_base ho0) hb); have n1_ := Aside0.mk (Kd.R_below (by (with_reducible repeat (first | apply Kd.R_alloc | apply Kd.R_drewN | apply Kd.R_drew)); exact HO_12.out) hb); have n2_ := Aside0.mk (Kd.R_below (by (with_reducible repeat (first | apply Kd.R_alloc | apply Kd.R_drewN | apply Kd.R_drew)); exact HO_373001.out) hb); have n3_ := Aside0.mk (Kd.R_lower (Kd.R_new' ho0 (Kd.R_lt (by (with_reducible repeat (first | apply Kd.R_alloc | apply Kd.R_drewN | apply Kd.R_drew)); exact HO_9.out))) (below_size (by repeat (first | (with_reducible first | exact HB.out | apply below_alloc | apply pw_below_drewN | apply below_drew1 | refine below_set ?_ GE372.out) | exact HB.out)))); have n4_ := Aside0.mk (blk_below (g := gb372) (o := .cells #[.int .i64 t365, .slice Ao45 t366.length co45, .bool t369, .int .i64 t370] 33 (0, 0)) (by (with_reducible repeat (first | refine blk_drewN ?_ _ | refine blk_drew ?_ | refine blk_alloc ?_ _)); exact BK372.out) hb); have n5_ := Aside0.mk (below_step (by repeat (first | (with_reducible first | exact HB.out | apply below_alloc | apply pw_below_drewN | apply below_drew1 | refine below_set ?_ GE372.out) | exact HB.out)) hb); clear HO_9; clear HO_12; clear HO_373001; clear BK372; clear HB; have HO_9 := n0_; have HO_12 := n1_; have HO_373001 := n2_; have HO377 := n3_; have BK372 := n4_; have HB := n5_; clear n0_ n1_ n2_ n3_ n4_ n5_; (try clear hb); (try clear hb2); (try clear hk); (try clear hi); (try clear ho0); obtain ⟨Ao78, co78, eo78⟩ := Kd.R_slice HO377.out; subst eo78) | ((with_reducible refine gate_builtin (b := .append) (xs := #[.tmp 145, .tmp 146]) rfl ?_); (try (refine gate_guard (by rfl) ?_; dsimp only)); at_builtin; refine Kd.R_append_rows (Kd.int .u8) (w0 := w) w.heap.size rfl (.tmp 145) (.tmp 146) 22 5 (.int .u8 0) 1 rfl Try.underlying22 info5 rfl (by decide) (by omega) (.slice Ao40 x9_1.length co40) x9_1 t374 _ _ _ (fun k_ => some k_ ≠ (.slice Ao78 t374.length co78 : Value).ownBlock) (fun _ => False) rfl rfl ?aO ?aR (fun _ _ h => h) (fun _ h => h.elim) ?aF ?aB ?aS ?aL ?_; (case aR => repeat (first | exact (Kd.R_reads' HO377.out).2.2 | (with_reducible refine Kd.C_alloc ?_ _) | (with_reducible refine Kd.C_drewN ?_ _) | (with_reducible refine Kd.C_drew ?_))); (case aB => exact (by repeat (first | (with_reducible first | exact HB.out | apply below_alloc | apply pw_below_drewN | apply below_drew1 | refine below_set ?_ GE372.out) | exact HB.out))); (case aF => exact (fun k_ hk => Kd.fresh' (Kd.R_lt (by (with_reducible repeat (first | apply Kd.R_alloc | apply Kd.R_drewN | apply Kd.R_drew)); exact HO377.out)) k_ hk)); (case aO => exact (by (with_reducible repeat (first | apply Kd.R_alloc | apply Kd.R_drewN | apply Kd.R_drew)); exact Kd.R_mono HO_9.out (fun _ hk => hk.2))); (case aS => exact (below_size (by repeat (first | (with_reducible first | exact HB.out | apply below_alloc | apply pw_below_drewN | apply below_drew1 | refine below_set ?_ GE372.out) | exact HB.out)))); (case aL => have := LMc63.out; omega); intro v379 w77 ho hb hg hat; rw [← Ny378.out] at ho; have n0_ := Aside0.mk (Kd.R_over' (by (with_reducible repeat (first | apply Kd.R_alloc | apply Kd.R_drewN | apply Kd.R_drew)); exact HO_12.out) (Kd.R_typed (by (with_reducible repeat (first | apply Kd.R_alloc | apply Kd.R_drewN | apply Kd.R_drew)); exact HO_9.out)) (by decide) hg); have n1_ := Aside0.mk (Kd.R_over' (by (with_reducible repeat (first | apply Kd.R_alloc | apply Kd.R_drewN | apply Kd.R_drew)); exact HO_373001.out) (Kd.R_typed (by (with_reducible repeat (first | apply Kd.R_alloc | apply Kd.R_drewN | apply Kd.R_drew)); exact HO_9.out)) (by decide) hg); have n2_ := Aside0.mk (blk_grown (g := gb372) (o := .cells #[.int .i64 t365, .slice Ao45 t366.length co45, .bool t369, .int .i64 t370] 33 (0, 0)) (by (with_reducible repeat (first | refine blk_drewN ?_ _ | refine blk_drew ?_ | refine blk_alloc ?_ _)); exact BK372.out) hg (Kd.R_ne HO_9.out BK372.out (by decide))); have n3_ := Aside0.mk (Kd.R_after (ok := (fun _ => True)) (by (with_reducible repeat (first | apply Kd.R_alloc | apply Kd.R_drewN | apply Kd.R_drew)); exact HO377.out) hg hat); have n4_ := Aside0.mk (hb); have n5_ := Aside0.mk (ho); clear HO_12; clear HO_373001; clear BK372; clear HO377; clear HB; clear HO_9; have HO_12 := n0_; have HO_373001 := n1_; have BK372 := n2_; have HO377 := n3_; have HB := n4_; have HO380 := n5_; clear n0_ n1_ n2_ n3_ n4_ n5_; clear ho hb hg hat; obtain ⟨Ao79, co79, eo79⟩ := Kd.R_slice HO380.out; subst eo79) | ((with_reducible refine gate_callee (f := 16) rfl ?_); refine goesL_ (some 150) rfl rfl Try.func16 (by kernel_rfl) rfl #[.slice Ao79 y378.length co79] rfl (by (try simp only [List.map_toArray, List.map_cons, List.map_nil]); first | done | rfl | (simp only [List.length_drop, List.length_take]; rfl)) ?_; (with_reducible refine (shard_Scan.calls kj51 _ _ y378 t381 t382 true t386 t387 _ ?side1 ?side2 A64.out).mono ?_); (case side1 => repeat (first | exact (Kd.R_reads' HO380.out).2.2 | (with_reducible refine Kd.C_alloc ?_ _) | (with_reducible refine Kd.C_drewN ?_ _) | (with_reducible refine Kd.C_drew ?_))); (case side2 => exact (Kd.R_reads' HO380.out).2.1); rintro e w80 ⟨v383, rfl, ho0, hb⟩; refine ⟨_, rfl, ?_⟩; have n0_ := Aside0.mk (Kd.R_elder' (by (with_reducible repeat (first | apply Kd.R_alloc | apply Kd.R_drewN | apply Kd.R_drew)); exact HO_12.out) (Kd.R_base ho0) hb); have n1_ := Aside0.mk (Kd.R_elder' (by (with_reducible repeat (first | apply Kd.R_alloc | apply Kd.R_drewN | apply Kd.R_drew)); exact HO_373001.out) (Kd.R_base ho0) hb); have n2_ := Aside0.mk (Kd.R_below (by (with_reducible repeat (first | apply Kd.R_alloc | apply Kd.R_drewN | apply Kd.R_drew)); exact HO377.out) hb); have n3_ := Aside0.mk (Kd.R_below (by (with_reducible repeat (first | apply Kd.R_alloc | apply Kd.R_drewN | apply Kd.R_drew)); exact HO380.out) hb); have n4_ := Aside0.mk (Kd.R_lower (Kd.R_new' (Kd.R_new' ho0 (Kd.R_lt (by (with_reducible repeat (first | apply Kd.R_alloc | apply Kd.R_drewN | apply Kd.R_drew)); exact HO_12.out))) (Kd.R_lt (by (with_reducible repeat (first | apply Kd.R_alloc | apply Kd.R_drewN | apply Kd.R_drew)); exact HO_373001.out))) (below_size (by repeat (first | (with_reducible first | exact HB.out | apply below_alloc | apply pw_below_drewN | apply below_drew1 | refine below_set ?_ GE372.out) | exact HB.out)))); have n5_ := Aside0.mk (blk_below (g := gb372) (o := .cells #[.int .i64 t365, .slice Ao45 t366.length co45, .bool t369, .int .i64 t370] 33 (0, 0)) (by (with_reducible repeat (first | refine blk_drewN ?_ _ | refine blk_drew ?_ | refine blk_alloc ?_ _)); exact BK372.out) hb); have n6_ := Aside0.mk (below_step (by repeat (first | (with_reducible first | exact HB.out | apply below_alloc | apply pw_below_drewN | apply below_drew1 | refine below_set ?_ GE372.out) | exact HB.out)) hb); clear HO_12; clear HO_373001; clear HO377; clear HO380; clear BK372; clear HB; have HO_12 := n0_; have HO_373001 := n1_; have HO377 := n2_; have HO380 := n3_; have HO384 := n4_; have BK372 := n5_; have HB := n6_; clear n0_ n1_ n2_ n3_ n4_ n5_ n6_; (try clear hb); (try clear hb2); (try clear hk); (try clear hi); (try clear ho0); have hcz81_0 : w80.cell? ⟨gb372, 0, none⟩ = some (.int .i64 t365) := (blk_cell BK372.out 0).trans rfl; have hcz81_1 : w80.cell? ⟨gb372, 1, none⟩ = some (.slice Ao45 t366.length co45) := (blk_cell BK372.out 1).trans rfl; have hcz81_2 : w80.cell? ⟨gb372, 2, none⟩ = some (.bool t369) := (blk_cell BK372.out 2).trans rfl; have hcz81_3 : w80.cell? ⟨gb372, 3, none⟩ = some (.int .i64 t370) := (blk_cell BK372.out 3).trans rfl; have hfz81_0 := blk_frozen BK372.out 0; have hfz81_1 := blk_frozen BK372.out 1; have hfz81_2 := blk_frozen BK372.out 2; have hfz81_3 := blk_frozen BK372.out 3; obtain ⟨Ao82, co82, eo82⟩ := Kd.R_slice HO384.out; subst eo82) | ((with_reducible refine gate_callee (f := 22) rfl ?_); refine goesL_ (some 155) rfl rfl Try.func22 (by kernel_rfl) rfl #[.slice Ao79 y378.length co79] rfl (by (try simp only [List.map_toArray, List.map_cons, List.map_nil]); first | done | rfl | (simp only [List.length_drop, List.length_take]; rfl)) ?_; (with_reducible refine (stookref00_Copy.calls _ _ y378 t388 _ ?side1 ?side2 A65.out).mono ?_); (case side1 => refine (Kd.R_reads' (e := 5) (base := w.heap.size) (ok := fun k_ => some k_ ≠ (.slice Ao78 t374.length co78 : Value).ownBlock) (n := y378.length) (c := co79) ?_).2.2; exact (by (with_reducible repeat (first | apply Kd.R_alloc | apply Kd.R_drewN | apply Kd.R_drew)); exact (Kd.R_mono (Kd.R_far (p := ⟨gb372, 3, none⟩) (Kd.R_far (p := ⟨gb372, 2, none⟩) (Kd.R_far (p := ⟨gb372, 1, none⟩) (Kd.R_far (p := ⟨gb372, 0, none⟩) (Kd.R_types HO380.out BK372.out (by decide)) (fun _ hk => hk.2) (.int .i64 t381)) (fun _ hk => hk.2) (.slice Ao82 t382.length co82)) (fun _ hk => hk.2) (.bool true)) (fun _ hk => hk.2) (.int .i64 t386)) (fun _ h_ => h_.1)))); (case side2 => exact (Kd.R_reads' HO380.out).2.1); rintro e w83 ⟨v389, rfl, ho0, hb⟩; refine ⟨_, rfl, ?_⟩; have n0_ := Aside0.mk (Kd.R_below (by (with_reducible repeat (first | apply Kd.R_alloc | apply Kd.R_drewN | apply Kd.R_drew)); exact (Kd.R_mono (Kd.R_far (p := ⟨gb372, 3, none⟩) (Kd.R_far (p := ⟨gb372, 2, none⟩) (Kd.R_far (p := ⟨gb372, 1, none⟩) (Kd.R_far (p := ⟨gb372, 0, none⟩) (Kd.R_types HO_12.out BK372.out (by decide)) (fun _ hk => hk.2) (.int .i64 t381)) (fun _ hk => hk.2) (.slice Ao82 t382.length co82)) (fun _ hk => hk.2) (.bool true)) (fun _ hk => hk.2) (.int .i64 t386)) (fun _ h_ => h_.1))) hb); have n1_ := Aside0.mk (Kd.R_below (by (with_reducible repeat (first | apply Kd.R_alloc | apply Kd.R_drewN | apply Kd.R_drew)); exact (Kd.R_mono (Kd.R_far (p := ⟨gb372, 3, none⟩) (Kd.R_far (p := ⟨gb372, 2, none⟩) (Kd.R_far (p := ⟨gb372, 1, none⟩) (Kd.R_far (p := ⟨gb372, 0, none⟩) (Kd.R_types HO_373001.out BK372.out (by decide)) (fun _ hk => hk.2) (.int .i64 t381)) (fun _ hk => hk.2) (.slice Ao82 t382.length co82)) (fun _ hk => hk.2) (.bool true)) (fun _ hk => hk.2) (.int .i64 t386)) (fun _ h_ => h_.1))) hb); have n2_ := Aside0.mk (Kd.R_elder' (by (with_reducible repeat (first | apply Kd.R_alloc | apply Kd.R_drewN | apply Kd.R_drew)); exact (Kd.R_mono (Kd.R_far (p := ⟨gb372, 3, none⟩) (Kd.R_far (p := ⟨gb372, 2, none⟩) (Kd.R_far (p := ⟨gb372, 1, none⟩) (Kd.R_far (p := ⟨gb372, 0, none⟩) (Kd.R_types HO377.out BK372.out (by decide)) (fun _ hk => hk.2) (.int .i64 t381)) (fun _ hk => hk.2) (.slice Ao82 t382.length co82)) (fun _ hk => hk.2) (.bool true)) (fun _ hk => hk.2) (.int .i64 t386)) (fun _ h_ => h_.1))) (Kd.R_base ho0) hb); have n3_ := Aside0.mk (Kd.R_elder' (by (with_reducible repeat (first | apply Kd.R_alloc | apply Kd.R_drewN | apply Kd.R_drew)); exact (Kd.R_mono (Kd.R_far (p := ⟨gb372, 3, none⟩) (Kd.R_far (p := ⟨gb372, 2, none⟩) (Kd.R_far (p := ⟨gb372, 1, none⟩) (Kd.R_far (p := ⟨gb372, 0, none⟩) (Kd.R_types HO380.out BK372.out (by decide)) (fun _ hk => hk.2) (.int .i64 t381)) (fun _ hk => hk.2) (.slice Ao82 t382.length co82)) (fun _ hk => hk.2) (.bool true)) (fun _ hk => hk.2) (.int .i64 t386)) (fun _ h_ => h_.1))) (Kd.R_base ho0) hb); have n4_ := Aside0.mk (Kd.R_below (by (with_reducible repeat (first | apply Kd.R_alloc | apply Kd.R_drewN | apply Kd.R_drew)); exact (Kd.R_mono (Kd.R_far (p := ⟨gb372, 3, none⟩) (Kd.R_far (p := ⟨gb372, 2, none⟩) (Kd.R_far (p := ⟨gb372, 1, none⟩) (Kd.R_far (p := ⟨gb372, 0, none⟩) (Kd.R_types HO384.out BK372.out (by decide)) (fun _ hk => hk.2) (.int .i64 t381)) (fun _ hk => hk.2) (.slice Ao82 t382.length co82)) (fun _ hk => hk.2) (.bool true)) (fun _ hk => hk.2) (.int .i64 t386)) (fun _ h_ => h_.1))) hb); have n5_ := Aside0.mk (Kd.R_lower (Kd.R_new' (Kd.R_new' ho0 (Kd.R_lt (by (with_reducible repeat (first | apply Kd.R_alloc | apply Kd.R_drewN | apply Kd.R_drew)); exact (Kd.R_mono (Kd.R_far (p := ⟨gb372, 3, none⟩) (Kd.R_far (p := ⟨gb372, 2, none⟩) (Kd.R_far (p := ⟨gb372, 1, none⟩) (Kd.R_far (p := ⟨gb372, 0, none⟩) (Kd.R_types HO377.out BK372.out (by decide)) (fun _ hk => hk.2) (.int .i64 t381)) (fun _ hk => hk.2) (.slice Ao82 t382.length co82)) (fun _ hk => hk.2) (.bool true)) (fun _ hk => hk.2) (.int .i64 t386)) (fun _ h_ => h_.1))))) (Kd.R_lt (by (with_reducible repeat (first | apply Kd.R_alloc | apply Kd.R_drewN | apply Kd.R_drew)); exact (Kd.R_mono (Kd.R_far (p := ⟨gb372, 3, none⟩) (Kd.R_far (p := ⟨gb372, 2, none⟩) (Kd.R_far (p := ⟨gb372, 1, none⟩) (Kd.R_far (p := ⟨gb372, 0, none⟩) (Kd.R_types HO380.out BK372.out (by decide)) (fun _ hk => hk.2) (.int .i64 t381)) (fun _ hk => hk.2) (.slice Ao82 t382.length co82)) (fun _ hk => hk.2) (.bool true)) (fun _ hk => hk.2) (.int .i64 t386)) (fun _ h_ => h_.1))))) (below_size (by repeat (first | (with_reducible first | exact HB.out | apply below_alloc | apply pw_below_drewN | apply below_drew1 | refine below_set ?_ GE372.out) | exact HB.out)))); have n6_ := Aside0.mk (blk_below (g := gb372) (o := .cells #[.int .i64 t381, .slice Ao82 t382.length co82, .bool true, .int .i64 t386] 33 (0, 0)) (by (with_reducible repeat (first | refine blk_drewN ?_ _ | refine blk_drew ?_ | refine blk_alloc ?_ _)); refine blk_put (cs := #[.int .i64 t381, .slice Ao82 t382.length co82, .bool true, .int .i64 t370]) ?_ 3 _ rfl; (with_reducible repeat (first | refine blk_drewN ?_ _ | refine blk_drew ?_ | refine blk_alloc ?_ _)); refine blk_put (cs := #[.int .i64 t381, .slice Ao82 t382.length co82, .bool t369, .int .i64 t370]) ?_ 2 _ rfl; (with_reducible repeat (first | refine blk_drewN ?_ _ | refine blk_drew ?_ | refine blk_alloc ?_ _)); refine blk_put (cs := #[.int .i64 t381, .slice Ao45 t366.length co45, .bool t369, .int .i64 t370]) ?_ 1 _ rfl; (with_reducible repeat (first | refine blk_drewN ?_ _ | refine blk_drew ?_ | refine blk_alloc ?_ _)); refine blk_put (cs := #[.int .i64 t365, .slice Ao45 t366.length co45, .bool t369, .int .i64 t370]) ?_ 0 _ rfl; (with_reducible repeat (first | refine blk_drewN ?_ _ | refine blk_drew ?_ | refine blk_alloc ?_ _)); exact BK372.out) hb); have n7_ := Aside0.mk (below_step (by repeat (first | (with_reducible first | exact HB.out | apply below_alloc | apply pw_below_drewN | apply below_drew1 | refine below_set ?_ GE372.out) | exact HB.out)) hb); clear HO_12; clear HO_373001; clear HO377; clear HO380; clear HO384; clear BK372; clear HB; have HO_12 := n0_; have HO_373001 := n1_; have HO377 := n2_; have HO380 := n3_; have HO384 := n4_; have HO390 := n5_; have BK372 := n6_; have HB := n7_; clear n0_ n1_ n2_ n3_ n4_ n5_ n6_ n7_; (try clear hb); (try clear hb2); (try clear hk); (try clear hi); (try clear ho0)) | ((with_reducible refine gate_builtin (b := .append) (xs := #[.tmp 155, .tmp 156]) rfl ?_); (try (refine gate_guard (by rfl) ?_; dsimp only)); at_builtin; refine Kd.R_append_rows (Kd.int .u8) (w0 := w) w.heap.size rfl (.tmp 155) (.tmp 156) 22 5 (.int .u8 0) 1 rfl Try.underlying22 info5 rfl (by decide) (by omega) v389 t388 l3 _ _ _ (fun k_ => some k_ ≠ (.slice Ao78 t374.length co78 : Value).ownBlock ∧ some k_ ≠ (.slice Ao79 y378.length co79 : Value).ownBlock) (fun _ => False) rfl rfl ?aO ?aR (fun _ _ h => h) (fun _ h => h.elim) ?aF ?aB ?aS ?aL ?_; (case aR => repeat (first | exact (Kd.C_below HR3.out HB.out) | (with_reducible refine Kd.C_alloc ?_ _) | (with_reducible refine Kd.C_drewN ?_ _) | (with_reducible refine Kd.C_drew ?_))); (case aB => exact (by repeat (first | (with_reducible first | exact HB.out | apply below_alloc | apply pw_below_drewN | apply below_drew1 | refine below_set ?_ GE372.out) | exact HB.out))); (case aF => exact (fun k_ hk => ⟨Kd.fresh' (Kd.R_lt (by (with_reducible repeat (first | apply Kd.R_alloc | apply Kd.R_drewN | apply Kd.R_drew)); exact HO377.out)) k_ hk, Kd.fresh' (Kd.R_lt (by (with_reducible repeat (first | apply Kd.R_alloc | apply Kd.R_drewN | apply Kd.R_drew)); exact HO380.out)) k_ hk⟩)); (case aO => exact (by (with_reducible repeat (first | apply Kd.R_alloc | apply Kd.R_drewN | apply Kd.R_drew)); exact Kd.R_mono HO390.out (fun _ hk => ⟨hk.1.2, hk.2⟩))); (case aS => exact (below_size (by repeat (first | (with_reducible first | exact HB.out | apply below_alloc | apply pw_below_drewN | apply below_drew1 | refine below_set ?_ GE372.out) | exact HB.out)))); (case aL => have := LMc66.out; omega); intro v392 w84 ho hb hg hat; rw [← Ny391.out] at ho; have n0_ := Aside0.mk (Kd.R_over' (by (with_reducible repeat (first | apply Kd.R_alloc | apply Kd.R_drewN | apply Kd.R_drew)); exact HO_12.out) (Kd.R_typed (by (with_reducible repeat (first | apply Kd.R_alloc | apply Kd.R_drewN | apply Kd.R_drew)); exact HO390.out)) (by decide) hg); have n1_ := Aside0.mk (Kd.R_over' (by (with_reducible repeat (first | apply Kd.R_alloc | apply Kd.R_drewN | apply Kd.R_drew)); exact HO_373001.out) (Kd.R_typed (by (with_reducible repeat (first | apply Kd.R_alloc | apply Kd.R_drewN | apply Kd.R_drew)); exact HO390.out)) (by decide) hg); have n2_ := Aside0.mk (blk_grown (g := gb372) (o := .cells #[.int .i64 t381, .slice Ao82 t382.length co82, .bool true, .int .i64 t386] 33 (0, 0)) (by (with_reducible repeat (first | refine blk_drewN ?_ _ | refine blk_drew ?_ | refine blk_alloc ?_ _)); exact BK372.out) hg (Kd.R_ne HO390.out BK372.out (by decide))); have n3_ := Aside0.mk (Kd.R_after (ok := (fun k_ => some k_ ≠ (.slice Ao79 y378.length co79 : Value).ownBlock)) (by (with_reducible repeat (first | apply Kd.R_alloc | apply Kd.R_drewN | apply Kd.R_drew)); exact Kd.R_mono HO377.out (fun _ hk => ⟨hk.1.2, hk.2⟩)) hg hat); have n4_ := Aside0.mk (Kd.R_after (ok := (fun k_ => some k_ ≠ (.slice Ao78 t374.length co78 : Value).ownBlock)) (by (with_reducible repeat (first | apply Kd.R_alloc | apply Kd.R_drewN | apply Kd.R_drew)); exact HO380.out) hg hat); have n5_ := Aside0.mk (Kd.R_over' (by (with_reducible repeat (first | apply Kd.R_alloc | apply Kd.R_drewN | apply Kd.R_drew)); exact HO384.out) (Kd.R_typed (by (with_reducible repeat (first | apply Kd.R_alloc | apply Kd.R_drewN | apply Kd.R_drew)); exact HO390.out)) (by decide) hg); have n6_ := Aside0.mk (hb); have n7_ := Aside0.mk (ho); clear HO_12; clear HO_373001; clear BK372; clear HO377; clear HO380; clear HO384; clear HB; clear HO390; have HO_12 := n0_; have HO_373001 := n1_; have BK372 := n2_; have HO377 := n3_; have HO380 := n4_; have HO384 := n5_; have HB := n6_; have HO393 := n7_; clear n0_ n1_ n2_ n3_ n4_ n5_ n6_ n7_; clear ho hb hg hat; obtain ⟨Ao85, co85, eo85⟩ := Kd.R_slice HO393.out; subst eo85) | ((with_reducible refine gate_callee (f := 16) rfl ?_); refine goesL_ (some 158) rfl rfl Try.func16 (by kernel_rfl) rfl #[.slice Ao85 y391.length co85] rfl (by (try simp only [List.map_toArray, List.map_cons, List.map_nil]); first | done | rfl | (simp only [List.length_drop, List.length_take]; rfl)) ?_; (with_reducible refine (shard_Scan.calls kj51 _ _ y391 t394 t395 t398 t399 t400 _ ?side1 ?side2 A67.out).mono ?_); (case side1 => repeat (first | exact (Kd.R_reads' HO393.out).2.2 | (with_reducible refine Kd.C_alloc ?_ _) | (with_reducible refine Kd.C_drewN ?_ _) | (with_reducible refine Kd.C_drew ?_))); (case side2 => exact (Kd.R_reads' HO393.out).2.1); rintro e w86 ⟨v396, rfl, ho0, hb⟩; refine ⟨_, rfl, ?_⟩; have n0_ := Aside0.mk (Kd.R_elder' (by (with_reducible repeat (first | apply Kd.R_alloc | apply Kd.R_drewN | apply Kd.R_drew)); exact HO_12.out) (Kd.R_base ho0) hb); have n1_ := Aside0.mk (Kd.R_elder' (by (with_reducible repeat (first | apply Kd.R_alloc | apply Kd.R_drewN | apply Kd.R_drew)); exact HO_373001.out) (Kd.R_base ho0) hb); have n2_ := Aside0.mk (Kd.R_below (by (with_reducible repeat (first | apply Kd.R_alloc | apply Kd.R_drewN | apply Kd.R_drew)); exact HO377.out) hb); have n3_ := Aside0.mk (Kd.R_below (by (with_reducible repeat (first | apply Kd.R_alloc | apply Kd.R_drewN | apply Kd.R_drew)); exact HO380.out) hb); have n4_ := Aside0.mk (Kd.R_elder' (by (with_reducible repeat (first | apply Kd.R_alloc | apply Kd.R_drewN | apply Kd.R_drew)); exact HO384.out) (Kd.R_base ho0) hb); have n5_ := Aside0.mk (Kd.R_below (by (with_reducible repeat (first | apply Kd.R_alloc | apply Kd.R_drewN | apply Kd.R_drew)); exact HO393.out) hb); have n6_ := Aside0.mk (Kd.R_lower (Kd.R_new' (Kd.R_new' (Kd.R_new' ho0 (Kd.R_lt (by (with_reducible repeat (first | apply Kd.R_alloc | apply Kd.R_drewN | apply Kd.R_drew)); exact HO_12.out))) (Kd.R_lt (by (with_reducible repeat (first | apply Kd.R_alloc | apply Kd.R_drewN | apply Kd.R_drew)); exact HO_373001.out))) (Kd.R_lt (by (with_reducible repeat (first | apply Kd.R_alloc | apply Kd.R_drewN | apply Kd.R_drew)); exact HO384.out))) (below_size (by repeat (first | (with_reducible first | exact HB.out | apply below_alloc | apply pw_below_drewN | apply below_drew1 | refine below_set ?_ GE372.out) | exact HB.out)))); have n7_ := Aside0.mk (blk_below (g := gb372) (o := .cells #[.int .i64 t381, .slice Ao82 t382.length co82, .bool true, .int .i64 t386] 33 (0, 0)) (by (with_reducible repeat (first | refine blk_drewN ?_ _ | refine blk_drew ?_ | refine blk_alloc ?_ _)); exact BK372.out) hb); have n8_ := Aside0.mk (below_step (by repeat (first | (with_reducible first | exact HB.out | apply below_alloc | apply pw_below_drewN | apply below_drew1 | refine below_set ?_ GE372.out) | exact HB.out)) hb); clear HO_12; clear HO_373001; clear HO377; clear HO380; clear HO384; clear HO393; clear BK372; clear HB; have HO_12 := n0_; have HO_373001 := n1_; have HO377 := n2_; have HO380 := n3_; have HO384 := n4_; have HO393 := n5_; have HO397 := n6_; have BK372 := n7_; have HB := n8_; clear n0_ n1_ n2_ n3_ n4_ n5_ n6_ n7_ n8_; (try clear hb); (try clear hb2); (try clear hk); (try clear hi); (try clear ho0)) | ((with_reducible refine gate_dst (N := 20) rfl ?_); (try (refine gate_guard (by rfl) ?_; dsimp only)); refine box_event ?hg (N := 20) ?hd (cs := #[.int .i64 0, .slice none 0 0, .bool false, .int .i64 0]) (t := 33) ?hr ?_; (case hd => rfl); (case hg => rfl); (case hr => first | (go_simp; done) | (go_simp; rfl)); intro gb401 hg w87 hbox hb; have n0_ := Aside0.mk (Kd.R_below (by (with_reducible repeat (first | apply Kd.R_alloc | apply Kd.R_drewN | apply Kd.R_drew)); exact HO_12.out) hb); have n1_ := Aside0.mk (Kd.R_below (by (with_reducible repeat (first | apply Kd.R_alloc | apply Kd.R_drewN | apply Kd.R_drew)); exact HO_373001.out) hb); have n2_ := Aside0.mk (Kd.R_below (by (with_reducible repeat (first | apply Kd.R_alloc | apply Kd.R_drewN | apply Kd.R_drew)); exact HO377.out) hb); have n3_ := Aside0.mk (Kd.R_below (by (with_reducible repeat (first | apply Kd.R_alloc | apply Kd.R_drewN | apply Kd.R_drew)); exact HO380.out) hb); have n4_ := Aside0.mk (Kd.R_below (by (with_reducible repeat (first | apply Kd.R_alloc | apply Kd.R_drewN | apply Kd.R_drew)); exact HO384.out) hb); have n5_ := Aside0.mk (Kd.R_below (by (with_reducible repeat (first | apply Kd.R_alloc | apply Kd.R_drewN | apply Kd.R_drew)); exact HO393.out) hb); have n6_ := Aside0.mk (Kd.R_below (by (with_reducible repeat (first | apply Kd.R_alloc | apply Kd.R_drewN | apply Kd.R_drew)); exact HO397.out) hb); have n7_ := Aside0.mk (blk_below (g := gb372) (o := .cells #[.int .i64 t381, .slice Ao82 t382.length co82, .bool true, .int .i64 t386] 33 (0, 0)) (by (with_reducible repeat (first | refine blk_drewN ?_ _ | refine blk_drew ?_ | refine blk_alloc ?_ _)); exact BK372.out) hb); have n8_ := Aside0.mk (below_step (by repeat (first | (with_reducible first | exact HB.out | apply below_alloc | apply pw_below_drewN | apply below_drew1 | refine below_set ?_ GE372.out) | exact HB.out)) hb); have n9_ := Aside0.mk (hbox); have n10_ := Aside0.mk ((by rw [hg]; exact (below_size (by repeat (first | (with_reducible first | exact HB.out | apply below_alloc | apply pw_below_drewN | apply below_drew1 | refine below_set ?_ GE372.out) | exact HB.out))) : w.heap.size ≤ gb401)); have n11_ := Aside0.mk ((by rw [hg]; exact (below_size (by repeat (first | (with_reducible first | exact HB.out | apply below_alloc | apply pw_below_drewN | apply below_drew1 | refine below_set ?_ GE372.out) | exact HB.out))) : w.heap.size ≤ gb401)); have n12_ := Aside0.mk ((by rw [hg]; exact Nat.ne_of_lt (blk_lt (g := gb372) (o := .cells #[.int .i64 t381, .slice Ao82 t382.length co82, .bool true, .int .i64 t386] 33 (0, 0)) (by (with_reducible repeat (first | refine blk_drewN ?_ _ | refine blk_drew ?_ | refine blk_alloc ?_ _)); exact BK372.out)) : gb372 ≠ gb401)); have n13_ := Aside0.mk ((by rw [hg]; exact Nat.ne_of_gt (blk_lt (g := gb372) (o := .cells #[.int .i64 t381, .slice Ao82 t382.length co82, .bool true, .int .i64 t386] 33 (0, 0)) (by (with_reducible repeat (first | refine blk_drewN ?_ _ | refine blk_drew ?_ | refine blk_alloc ?_ _)); exact BK372.out)) : gb401 ≠ gb372)); clear HO_12; clear HO_373001; clear HO377; clear HO380; clear HO384; clear HO393; clear HO397; clear BK372; clear HB; have HO_12 := n0_; have HO_373001 := n1_; have HO377 := n2_; have HO380 := n3_; have HO384 := n4_; have HO393 := n5_; have HO397 := n6_; have BK372 := n7_; have HB := n8_; have BK401 := n9_; have GW401 := n10_; have GE401 := n11_; have NB372_401 := n12_; have NB401_372 := n13_; clear n0_ n1_ n2_ n3_ n4_ n5_ n6_ n7_ n8_ n9_ n10_ n11_ n12_ n13_; clear hb hbox hg; have hnb88 := NB401_372.out; have hnc88 := NB372_401.out; have hcz89_0 : w87.cell? ⟨gb401, 0, none⟩ = some (.int .i64 0) := (blk_cell BK401.out 0).trans rfl; have hcz89_1 : w87.cell? ⟨gb401, 1, none⟩ = some (.slice none 0 0) := (blk_cell BK401.out 1).trans rfl; have hcz89_2 : w87.cell? ⟨gb401, 2, none⟩ = some (.bool false) := (blk_cell BK401.out 2).trans rfl; have hcz89_3 : w87.cell? ⟨gb401, 3, none⟩ = some (.int .i64 0) := (blk_cell BK401.out 3).trans rfl; have hfz89_0 := blk_frozen BK401.out 0; have hfz89_1 := blk_frozen BK401.out 1; have hfz89_2 := blk_frozen BK401.out 2; have hfz89_3 := blk_frozen BK401.out 3; obtain ⟨Ao90, co90, eo90⟩ := Kd.R_slice HO397.out; subst eo90; have hcz91_0 : w87.cell? ⟨gb372, 0, none⟩ = some (.int .i64 t381) := (blk_cell BK372.out 0).trans rfl; have hcz91_1 : w87.cell? ⟨gb372, 1, none⟩ = some (.slice Ao82 t382.length co82) := (blk_cell BK372.out 1).trans rfl; have hcz91_2 : w87.cell? ⟨gb372, 2, none⟩ = some (.bool true) := (blk_cell BK372.out 2).trans rfl; have hcz91_3 : w87.cell? ⟨gb372, 3, none⟩ = some (.int .i64 t386) := (blk_cell BK372.out 3).trans rfl; have hfz91_0 := blk_frozen BK372.out 0; have hfz91_1 := blk_frozen BK372.out 1; have hfz91_2 := blk_frozen BK372.out 2; have hfz91_3 := blk_frozen BK372.out 3) | (go_at_call 18; (with_reducible refine (stookref21_Same.calls kj51 t381 _ _ t382 true t386 t394 _ _ t395 t398 t399 true _ ?side1 ?side2 ?side3 ?side4 A70.out).mono ?_); (case side1 => refine (Kd.R_reads' (e := 3) (base := w.heap.size) (ok := fun k_ => (((True ∧ some k_ ≠ (u12 : Value).ownBlock) ∧ some k_ ≠ (.slice Ao45 t366.length co45 : Value).ownBlock) ∧ some k_ ≠ (.slice Ao90 t395.length co90 : Value).ownBlock)) (n := t382.length) (c := co82) ?_).2.2; exact (by (with_reducible repeat (first | apply Kd.R_alloc | apply Kd.R_drewN | apply Kd.R_drew)); exact (Kd.R_mono (Kd.R_far (p := ⟨gb401, 3, none⟩) (Kd.R_far (p := ⟨gb401, 2, none⟩) (Kd.R_far (p := ⟨gb401, 1, none⟩) (Kd.R_far (p := ⟨gb401, 0, none⟩) (Kd.R_types HO384.out BK401.out (by decide)) (fun _ hk => hk.2) (.int .i64 t394)) (fun _ hk => hk.2) (.slice Ao90 t395.length co90)) (fun _ hk => hk.2) (.bool t398)) (fun _ hk => hk.2) (.int .i64 t399)) (fun _ h_ => h_.1)))); (case side2 => exact (Kd.R_reads' HO384.out).2.1); (case side3 => refine (Kd.R_reads' (e := 3) (base := w.heap.size) (ok := fun k_ => (((True ∧ some k_ ≠ (u12 : Value).ownBlock) ∧ some k_ ≠ (.slice Ao45 t366.length co45 : Value).ownBlock) ∧ some k_ ≠ (.slice Ao82 t382.length co82 : Value).ownBlock)) (n := t395.length) (c := co90) ?_).2.2; exact (by (with_reducible repeat (first | apply Kd.R_alloc | apply Kd.R_drewN | apply Kd.R_drew)); exact (Kd.R_mono (Kd.R_far (p := ⟨gb401, 3, none⟩) (Kd.R_far (p := ⟨gb401, 2, none⟩) (Kd.R_far (p := ⟨gb401, 1, none⟩) (Kd.R_far (p := ⟨gb401, 0, none⟩) (Kd.R_types HO397.out BK401.out (by decide)) (fun _ hk => hk.2) (.int .i64 t394)) (fun _ hk => hk.2) (.slice Ao90 t395.length co90)) (fun _ hk => hk.2) (.bool t398)) (fun _ hk => hk.2) (.int .i64 t399)) (fun _ h_ => h_.1)))); (case side4 => exact (Kd.R_reads' HO397.out).2.1); rintro e w92 ⟨rfl, hb⟩; have n0_ := Aside0.mk (Kd.R_below (by (with_reducible repeat (first | apply Kd.R_alloc | apply Kd.R_drewN | apply Kd.R_drew)); exact (Kd.R_mono (Kd.R_far (p := ⟨gb401, 3, none⟩) (Kd.R_far (p := ⟨gb401, 2, none⟩) (Kd.R_far (p := ⟨gb401, 1, none⟩) (Kd.R_far (p := ⟨gb401, 0, none⟩) (Kd.R_types HO_12.out BK401.out (by decide)) (fun _ hk => hk.2) (.int .i64 t394)) (fun _ hk => hk.2) (.slice Ao90 t395.length co90)) (fun _ hk => hk.2) (.bool t398)) (fun _ hk => hk.2) (.int .i64 t399)) (fun _ h_ => h_.1))) hb); have n1_ := Aside0.mk (Kd.R_below (by (with_reducible repeat (first | apply Kd.R_alloc | apply Kd.R_drewN | apply Kd.R_drew)); exact (Kd.R_mono (Kd.R_far (p := ⟨gb401, 3, none⟩) (Kd.R_far (p := ⟨gb401, 2, none⟩) (Kd.R_far (p := ⟨gb401, 1, none⟩) (Kd.R_far (p := ⟨gb401, 0, none⟩) (Kd.R_types HO_373001.out BK401.out (by decide)) (fun _ hk => hk.2) (.int .i64 t394)) (fun _ hk => hk.2) (.slice Ao90 t395.length co90)) (fun _ hk => hk.2) (.bool t398)) (fun _ hk => hk.2) (.int .i64 t399)) (fun _ h_ => h_.1))) hb); have n2_ := Aside0.mk (Kd.R_below (by (with_reducible repeat (first | apply Kd.R_alloc | apply Kd.R_drewN | apply Kd.R_drew)); exact (Kd.R_mono (Kd.R_far (p := ⟨gb401, 3, none⟩) (Kd.R_far (p := ⟨gb401, 2, none⟩) (Kd.R_far (p := ⟨gb401, 1, none⟩) (Kd.R_far (p := ⟨gb401, 0, none⟩) (Kd.R_types HO377.out BK401.out (by decide)) (fun _ hk => hk.2) (.int .i64 t394)) (fun _ hk => hk.2) (.slice Ao90 t395.length co90)) (fun _ hk => hk.2) (.bool t398)) (fun _ hk => hk.2) (.int .i64 t399)) (fun _ h_ => h_.1))) hb); have n3_ := Aside0.mk (Kd.R_below (by (with_reducible repeat (first | apply Kd.R_alloc | apply Kd.R_drewN | apply Kd.R_drew)); exact (Kd.R_mono (Kd.R_far (p := ⟨gb401, 3, none⟩) (Kd.R_far (p := ⟨gb401, 2, none⟩) (Kd.R_far (p := ⟨gb401, 1, none⟩) (Kd.R_far (p := ⟨gb401, 0, none⟩) (Kd.R_types HO380.out BK401.out (by decide)) (fun _ hk => hk.2) (.int .i64 t394)) (fun _ hk => hk.2) (.slice Ao90 t395.length co90)) (fun _ hk => hk.2) (.bool t398)) (fun _ hk => hk.2) (.int .i64 t399)) (fun _ h_ => h_.1))) hb); have n4_ := Aside0.mk (Kd.R_below (by (with_reducible repeat (first | apply Kd.R_alloc | apply Kd.R_drewN | apply Kd.R_drew)); exact (Kd.R_mono (Kd.R_far (p := ⟨gb401, 3, none⟩) (Kd.R_far (p := ⟨gb401, 2, none⟩) (Kd.R_far (p := ⟨gb401, 1, none⟩) (Kd.R_far (p := ⟨gb401, 0, none⟩) (Kd.R_types HO384.out BK401.out (by decide)) (fun _ hk => hk.2) (.int .i64 t394)) (fun _ hk => hk.2) (.slice Ao90 t395.length co90)) (fun _ hk => hk.2) (.bool t398)) (fun _ hk => hk.2) (.int .i64 t399)) (fun _ h_ => h_.1))) hb); have n5_ := Aside0.mk (Kd.R_below (by (with_reducible repeat (first | apply Kd.R_alloc | apply Kd.R_drewN | apply Kd.R_drew)); exact (Kd.R_mono (Kd.R_far (p := ⟨gb401, 3, none⟩) (Kd.R_far (p := ⟨gb401, 2, none⟩) (Kd.R_far (p := ⟨gb401, 1, none⟩) (Kd.R_far (p := ⟨gb401, 0, none⟩) (Kd.R_types HO393.out BK401.out (by decide)) (fun _ hk => hk.2) (.int .i64 t394)) (fun _ hk => hk.2) (.slice Ao90 t395.length co90)) (fun _ hk => hk.2) (.bool t398)) (fun _ hk => hk.2) (.int .i64 t399)) (fun _ h_ => h_.1))) hb); have n6_ := Aside0.mk (Kd.R_below (by (with_reducible repeat (first | apply Kd.R_alloc | apply Kd.R_drewN | apply Kd.R_drew)); exact (Kd.R_mono (Kd.R_far (p := ⟨gb401, 3, none⟩) (Kd.R_far (p := ⟨gb401, 2, none⟩) (Kd.R_far (p := ⟨gb401, 1, none⟩) (Kd.R_far (p := ⟨gb401, 0, none⟩) (Kd.R_types HO397.out BK401.out (by decide)) (fun _ hk => hk.2) (.int .i64 t394)) (fun _ hk => hk.2) (.slice Ao90 t395.length co90)) (fun _ hk => hk.2) (.bool t398)) (fun _ hk => hk.2) (.int .i64 t399)) (fun _ h_ => h_.1))) hb); have n7_ := Aside0.mk (blk_below (g := gb372) (o := .cells #[.int .i64 t381, .slice Ao82 t382.length co82, .bool true, .int .i64 t386] 33 (0, 0)) (by (with_reducible repeat (first | refine blk_drewN ?_ _ | refine blk_drew ?_ | refine blk_alloc ?_ _)); refine blk_far ?_ NB372_401.out _; (with_reducible repeat (first | refine blk_drewN ?_ _ | refine blk_drew ?_ | refine blk_alloc ?_ _)); refine blk_far ?_ NB372_401.out _; (with_reducible repeat (first | refine blk_drewN ?_ _ | refine blk_drew ?_ | refine blk_alloc ?_ _)); refine blk_far ?_ NB372_401.out _; (with_reducible repeat (first | refine blk_drewN ?_ _ | refine blk_drew ?_ | refine blk_alloc ?_ _)); refine blk_far ?_ NB372_401.out _; (with_reducible repeat (first | refine blk_drewN ?_ _ | refine blk_drew ?_ | refine blk_alloc ?_ _)); exact BK372.out) hb); have n8_ := Aside0.mk (blk_below (g := gb401) (o := .cells #[.int .i64 t394, .slice Ao90 t395.length co90, .bool t398, .int .i64 t399] 33 (0, 0)) (by (with_reducible repeat (first | refine blk_drewN ?_ _ | refine blk_drew ?_ | refine blk_alloc ?_ _)); refine blk_put (cs := #[.int .i64 t394, .slice Ao90 t395.length co90, .bool t398, .int .i64 0]) ?_ 3 _ rfl; (with_reducible repeat (first | refine blk_drewN ?_ _ | refine blk_drew ?_ | refine blk_alloc ?_ _)); refine blk_put (cs := #[.int .i64 t394, .slice Ao90 t395.length co90, .bool false, .int .i64 0]) ?_ 2 _ rfl; (with_reducible repeat (first | refine blk_drewN ?_ _ | refine blk_drew ?_ | refine blk_alloc ?_ _)); refine blk_put (cs := #[.int .i64 t394, .slice none 0 0, .bool false, .int .i64 0]) ?_ 1 _ rfl; (with_reducible repeat (first | refine blk_drewN ?_ _ | refine blk_drew ?_ | refine blk_alloc ?_ _)); refine blk_put (cs := #[.int .i64 0, .slice none 0 0, .bool false, .int .i64 0]) ?_ 0 _ rfl; (with_reducible repeat (first | refine blk_drewN ?_ _ | refine blk_drew ?_ | refine blk_alloc ?_ _)); exact BK401.out) hb); have n9_ := Aside0.mk (below_step (by repeat (first | (with_reducible first | exact HB.out | apply below_alloc | apply pw_below_drewN | apply below_drew1 | refine below_set ?_ GE372.out | refine below_set ?_ GE401.out) | exact HB.out)) hb); clear HO_12; clear HO_373001; clear HO377; clear HO380; clear HO384; clear HO393; clear HO397; clear BK372; clear BK401; clear HB; have HO_12 := n0_; have HO_373001 := n1_; have HO377 := n2_; have HO380 := n3_; have HO384 := n4_; have HO393 := n5_; have HO397 := n6_; have BK372 := n7_; have BK401 := n8_; have HB := n9_; clear n0_ n1_ n2_ n3_ n4_ n5_ n6_ n7_ n8_ n9_; (try clear hb); (try clear hb2); (try clear hk); (try clear hi); have hcz93_0 : w92.cell? ⟨gb372, 0, none⟩ = some (.int .i64 t381) := (blk_cell BK372.out 0).trans rfl; have hcz93_1 : w92.cell? ⟨gb372, 1, none⟩ = some (.slice Ao82 t382.length co82) := (blk_cell BK372.out 1).trans rfl; have hcz93_2 : w92.cell? ⟨gb372, 2, none⟩ = some (.bool true) := (blk_cell BK372.out 2).trans rfl; have hcz93_3 : w92.cell? ⟨gb372, 3, none⟩ = some (.int .i64 t386) := (blk_cell BK372.out 3).trans rfl; have hfz93_0 := blk_frozen BK372.out 0; have hfz93_1 := blk_frozen BK372.out 1; have hfz93_2 := blk_frozen BK372.out 2; have hfz93_3 := blk_frozen BK372.out 3; obtain ⟨Ao94, co94, eo94⟩ := Kd.R_slice HO_12.out; subst eo94) | (go_at_call 15; (with_reducible refine (lives_any kj51  t403 _ A75.out).mono ?_); rintro e w95 ⟨rfl, hb⟩; have n0_ := Aside0.mk (Kd.R_below (by (with_reducible repeat (first | apply Kd.R_alloc | apply Kd.R_drewN | apply Kd.R_drew)); exact HO_12.out) hb); have n1_ := Aside0.mk (Kd.R_below (by (with_reducible repeat (first | apply Kd.R_alloc | apply Kd.R_drewN | apply Kd.R_drew)); exact HO_373001.out) hb); have n2_ := Aside0.mk (Kd.R_below (by (with_reducible repeat (first | apply Kd.R_alloc | apply Kd.R_drewN | apply Kd.R_drew)); exact HO377.out) hb); have n3_ := Aside0.mk (Kd.R_below (by (with_reducible repeat (first | apply Kd.R_alloc | apply Kd.R_drewN | apply Kd.R_drew)); exact HO380.out) hb); have n4_ := Aside0.mk (Kd.R_below (by (with_reducible repeat (first | apply Kd.R_alloc | apply Kd.R_drewN | apply Kd.R_drew)); exact HO384.out) hb); have n5_ := Aside0.mk (Kd.R_below (by (with_reducible repeat (first | apply Kd.R_alloc | apply Kd.R_drewN | apply Kd.R_drew)); exact HO393.out) hb); have n6_ := Aside0.mk (Kd.R_below (by (with_reducible repeat (first | apply Kd.R_alloc | apply Kd.R_drewN | apply Kd.R_drew)); exact HO397.out) hb); have n7_ := Aside0.mk (blk_below (g := gb372) (o := .cells #[.int .i64 t381, .slice Ao82 t382.length co82, .bool true, .int .i64 t386] 33 (0, 0)) (by (with_reducible repeat (first | refine blk_drewN ?_ _ | refine blk_drew ?_ | refine blk_alloc ?_ _)); exact BK372.out) hb); have n8_ := Aside0.mk (blk_below (g := gb401) (o := .cells #[.int .i64 t394, .slice Ao90 t395.length co90, .bool t398, .int .i64 t399] 33 (0, 0)) (by (with_reducible repeat (first | refine blk_drewN ?_ _ | refine blk_drew ?_ | refine blk_alloc ?_ _)); exact BK401.out) hb); have n9_ := Aside0.mk (below_step (by repeat (first | (with_reducible first | exact HB.out | apply below_alloc | apply pw_below_drewN | apply below_drew1 | refine below_set ?_ GE372.out | refine below_set ?_ GE401.out) | exact HB.out)) hb); clear HO_12; clear HO_373001; clear HO377; clear HO380; clear HO384; clear HO393; clear HO397; clear BK372; clear BK401; clear HB; have HO_12 := n0_; have HO_373001 := n1_; have HO377 := n2_; have HO380 := n3_; have HO384 := n4_; have HO393 := n5_; have HO397 := n6_; have BK372 := n7_; have BK401 := n8_; have HB := n9_; clear n0_ n1_ n2_ n3_ n4_ n5_ n6_ n7_ n8_ n9_; (try clear hb); (try clear hb2); (try clear hk); (try clear hi)))
                                                    go_ret
                                                    exact ⟨by first | rfl | (simp [errW_none, errW_some] <;> rfl) | (simp only [← hji35]; first | rfl | (simp [errW_none, errW_some] <;> rfl)) | (simp [*, errW_none, errW_some] <;> rfl), by repeat (first | (with_reducible first | exact HB.out | apply below_alloc | apply pw_below_drewN | apply below_drew1 | refine below_set ?_ GE372.out | refine below_set ?_ GE401.out) | exact HB.out)⟩
                                                  · rw [if_neg c74] at H
                                                    exact absurd ((Option.some.inj H).trans HRT.out) (by decide)
                                                · rw [if_neg c73] at H
                                                  exact absurd ((Option.some.inj H).trans HRT.out) (by decide)
                                              · replace c72 := Bool.eq_false_iff.mpr c72
                                                subst c72
                                                have H1 : (some false) = some r := by rw [if_neg (show ¬ (false = true) by decide)] at H; exact H
                                                clear H
                                                have H := H1
                                                clear H1
                                                exact absurd ((Option.some.inj H).trans HRT.out) (by decide)
                                            · replace c71 := Bool.eq_false_iff.mpr c71
                                              subst c71
                                              have H1 : (some false) = some r := by rw [if_neg (show ¬ (false = true) by decide)] at H; exact H
                                              clear H
                                              have H := H1
                                              clear H1
                                              exact absurd ((Option.some.inj H).trans HRT.out) (by decide)
                                          · rw [if_neg c69] at H
                                            exact absurd ((Option.some.inj H).trans HRT.out) (by decide)
                                        · rw [if_neg c68] at H
                                          exact absurd ((Option.some.inj H).trans HRT.out) (by decide)
                                      · rw [if_neg c66] at H
                                        exact absurd H (by simp)
                                    · rw [if_neg c63] at H
                                      exact absurd H (by simp)
                                  · rw [if_neg c62] at H
                                    exact absurd ((Option.some.inj H).trans HRT.out) (by decide)
                      · rw [if_neg c37] at H
                        exact absurd H (by simp)
                    · rw [if_neg c36] at H
                      exact absurd H (by simp)
  · rw [if_neg c6] at H
    have c6b0 : (t343 == 0) = false := beq_eq_false_iff_ne.mpr c6
    have c6b1 : (t343 != 0) = true := bne_iff_ne.mpr c6
    replace H := Option.bind_eq_some_iff.mp H
    obtain ⟨t346, A1990, H⟩ := H
    replace H : (some t346) = some r := H
    have A199 := Aside0.mk A1990
    clear A1990
    obtain rfl := Option.some.inj H
    go_enter Try.func5, Try.ntmps5
    go_wp2_with (first | ((with_reducible refine gate_callee (f := 9) rfl ?_); refine goesL_ (some 24) rfl rfl Try.func9 (by kernel_rfl) rfl #[.int .i64 a0] rfl (by (try simp only [List.map_toArray, List.map_cons, List.map_nil]); first | done | rfl | (simp only [List.length_drop, List.length_take]; rfl)) ?_; (with_reducible refine (shard_Head.calls k a0 t342 t343 _ A5.out).mono ?_); rintro e w200 ⟨v344, rfl, ho0, hb⟩; refine ⟨_, rfl, ?_⟩; have n0_ := Aside0.mk (Kd.R_lower ho0 (below_size (by repeat (first | (with_reducible first | exact HB.out | apply below_alloc | apply pw_below_drewN | apply below_drew1) | exact HB.out)))); have n1_ := Aside0.mk (below_step (by repeat (first | (with_reducible first | exact HB.out | apply below_alloc | apply pw_below_drewN | apply below_drew1) | exact HB.out)) hb); clear HB; have HO345 := n0_; have HB := n1_; clear n0_ n1_; (try clear hb); (try clear hb2); (try clear hk); (try clear hi); (try clear ho0)) | ((with_reducible refine gate_callee (f := 15) rfl ?_); refine goesL_ (some 29) rfl rfl Try.func15 (by kernel_rfl) rfl #[] rfl (by (try simp only [List.map_toArray, List.map_cons, List.map_nil]); first | done | rfl | (simp only [List.length_drop, List.length_take]; rfl)) ?_; (with_reducible refine (lives_any k  t346 _ A199.out).mono ?_); rintro e w201 ⟨rfl, hb⟩; refine ⟨_, rfl, ?_⟩; have n0_ := Aside0.mk (Kd.R_below (by (with_reducible repeat (first | apply Kd.R_alloc | apply Kd.R_drewN | apply Kd.R_drew)); exact HO345.out) hb); have n1_ := Aside0.mk (below_step (by repeat (first | (with_reducible first | exact HB.out | apply below_alloc | apply pw_below_drewN | apply below_drew1) | exact HB.out)) hb); clear HO345; clear HB; have HO345 := n0_; have HB := n1_; clear n0_ n1_; (try clear hb); (try clear hb2); (try clear hk); (try clear hi)))
    go_ret
    exact ⟨by first | rfl | (simp [errW_none, errW_some] <;> rfl) | (simp [*, errW_none, errW_some] <;> rfl), by repeat (first | (with_reducible first | exact HB.out | apply below_alloc | apply pw_below_drewN | apply below_drew1) | exact HB.out)⟩

end Go.Proofs.Ytjefgdggjchhbaa.PAll
