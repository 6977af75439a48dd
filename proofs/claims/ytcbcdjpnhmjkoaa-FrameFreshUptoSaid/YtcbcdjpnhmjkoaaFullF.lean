/- Rows with room, more: an empty row with room; rows of rows of bytes whose room is known each; f0.Spoil at such a row. For the law FrameFresh. -/
import Derived.Test.YtcbcdjpnhmjkoaaSpoilK
set_option linter.unusedVariables false
set_option linter.unusedSimpArgs false
namespace Go.Proofs.Ytcbcdjpnhmjkoaa.PAll
open Go.RowKit Go.Proofs.YtcbcdjpnhmjkoaaVW.PrintWords Go.Proofs.YtcbcdjpnhmjkoaaVW.PrintLast Go.Proofs.YtcbcdjpnhmjkoaaVW.PrintMore
attribute [local go_sem] max2_int min2_int max_two min_two max_three min_three max_four min_four   -- for this text's walks alone
section
variable {k : IntKind} {P : Program}
theorem RF.lower {w : World} {e base b : Nat} {v : Value} {xs : List Int} (h : RF k e w base v xs) (hb : b ≤ base) : RF k e w b v xs := ⟨Kd.R_lower h.1 hb, h.2.lower hb⟩
/-- An empty row with room. -/
theorem RF_make0 {w0 W : World} {ops : Array Oper} {rest : List Oper} {o : Oper} {a : Act} {Q : Exit → Act → World → Prop} (base : Nat) (hgd : o.guard = none) (t e : TypeId) (x y : Operand) (ho : o.op = .makeSlice t x y) (m : Int) (hx : a.eval x = .int .i64 0) (hy : a.eval y = .int .i64 m)
    (ht : P.underlying t = some (.slice e)) (hinfo : (P.info? e).map (fun i => (i.zero, i.size, i.bytes)) = some (some (.int k 0), 1, 1)) (h0 : 0 ≤ m) (hl : m.toNat ≤ 281474976710656) (HB : Below base w0 W) (hbase : base ≤ W.heap.size)
    (h : ∀ v1 w1, RF k e w1 base v1 (List.replicate (0 : Int).toNat 0) → Below base w0 w1 → wpList P ops Q rest (a.put o.dst v1) w1) : wpList P ops Q (o :: rest) a W := by
  obtain ⟨m, rfl⟩ := Int.eq_ofNat_of_zero_le h0
  rw [Int.toNat_natCast] at hl
  obtain ⟨i0, hi, hzz⟩ := Option.map_eq_some_iff.1 hinfo
  simp only [Prod.mk.injEq] at hzz
  obtain ⟨hz0, hz1, hz2⟩ := hzz
  have hr := run_make (P := P) W t e i0 (.int k 0) ht hi hz0 .i64 .i64 0 (m : Int) (by omega) (by omega) (by rw [hz2]; omega) (by omega)
  rw [hz1, Int.toNat_natCast] at hr
  have hh : (W.alloc (.cells (madeCells (Value.cells (.int k 0)) (m * 1)) e)).heap[W.heap.size]? = some (.cells (madeCells (Value.cells (.int k 0)) (m * 1)) e (0, 0)) := heap_alloc_new W _
  have hsz : (madeCells (Value.cells (.int k 0)) (m * 1)).size = m * 1 := by simp [madeCells]
  refine Kd.event_run hgd (v := .slice (some ⟨W.heap.size, 0, none⟩) 0 m) (w1 := W.alloc (.cells (madeCells (Value.cells (.int k 0)) (m * 1)) e)) ?_ (h _ _ ⟨?_, ?_⟩ (HB.alloc hbase _))
  · simp [execOp, ho, hx, hy, hr]
  · exact Kd.R_of_own (h1 := fun _ => rfl) ⟨rfl, .inr ⟨W.heap.size, m, _, rfl, hbase, hh, Nat.zero_le _, by unfold maxLen; omega, by rw [hsz]; exact Nat.le_refl _, rfl⟩⟩ (fun _ _ => trivial)
  · refine Or.inr ⟨W.heap.size, 0, m, rfl, hbase, ⟨(Array.getElem?_eq_some_iff.1 hh).1, fun i hi2 => ⟨⟨0, ?_⟩, frozen_of_row _ _ _ _ _ hh⟩⟩, Nat.zero_le _, by unfold maxLen; omega⟩
    rw [cell_of_row _ _ _ _ _ _ hh]
    simp [madeCells, Value.cells, hi2, Nat.mod_one]
theorem Full.move {w w1 : World} {base e : Nat} {ok : Nat → Prop} {v : Value} {xs : List Int} (h : Full k w base v) (hR : Kd.R (Kd.int k) e w base ok v xs) (hm : ∀ j, ok j → w1.heap[j]? = w.heap[j]?) : Full k w1 base v := by
  rcases h with rfl | ⟨g, n, cap, rfl, hg, hr, hn, hc⟩
  · exact Or.inl rfl
  · have ho : ok g := hR.1 g rfl
    have hlt := Kd.R_lt (Kd.R_move hR hm) g rfl
    exact Or.inr ⟨g, n, cap, rfl, hg, ⟨hlt, fun i hi => by rw [cell_same (hm g ho), frozen_same (hm g ho)]; exact hr.2 i hi⟩, hn, hc⟩
end
/-- A row of numbers inside a row, whose room is known. -/
def Kd.full (e : Nat) (k : IntKind) : Kd (List Int) where
  sz := 1
  E := e :: (Kd.int k).E
  K := (Kd.slice e (Kd.int k)).K
  M := fun w base ok xs cs => ∃ v, cs = [v] ∧ (Kd.int k).R e w base ok v xs ∧ Full k w base v
  K_len := (Kd.slice e (Kd.int k)).K_len
  K_one := (Kd.slice e (Kd.int k)).K_one
  K_below := (Kd.slice e (Kd.int k)).K_below
  K_of_M := by
    rintro w base ok x cs ⟨v, rfl, h, _⟩
    exact (Kd.slice e (Kd.int k)).K_of_M ⟨v, rfl, h⟩
  M_mono := by
    rintro w base ok ok' x cs hok ⟨v, rfl, h, hf⟩
    exact ⟨v, rfl, Kd.R_mono h hok, hf⟩
  M_bound := by
    rintro w base ok x cs ⟨v, rfl, h, hf⟩
    exact ⟨v, rfl, Kd.R_bound h, hf⟩
  M_move := by
    rintro w w1 base ok x cs hm ⟨v, rfl, h, hf⟩
    exact ⟨v, rfl, Kd.R_move h hm, hf.move h hm⟩
  M_lower := by
    rintro w base base' ok x cs hb ⟨v, rfl, h, hf⟩
    exact ⟨v, rfl, Kd.R_lower h hb, hf.lower hb⟩
theorem M_full {k : IntKind} {e base : Nat} {ok : Nat → Prop} {w : World} {v : Value} {xs : List Int} (h : (Kd.int k).R e w base ok v xs) (hf : Full k w base v) : (Kd.full e k).M w base ok xs [v] := ⟨v, rfl, h, hf⟩
theorem C_full {k : IntKind} {e : Nat} {w : World} {A : Option Addr} {n : Nat} {xs : List (List Int)} (h : (Kd.full e k).C w A n xs) : (Kd.slice e (Kd.int k)).C w A n xs := h
/-- The rows inside, one by one. -/
def Rooms (w : World) (base gl n : Nat) : Prop := ∀ j, j < n → ∃ v, w.cell? ⟨gl, j, none⟩ = some v ∧ Full .u8 w base v ∧ v.ownBlock ≠ some gl
theorem rooms_of {w : World} {base gl cap : Nat} {ok : Nat → Prop} {xs : List (List Int)} (h : Kd.R (Kd.full 5 .u8) 23 w base ok (.slice (some ⟨gl, 0, none⟩) xs.length cap) xs) : Rooms w base gl xs.length := by
  intro j hj
  obtain ⟨hok, inner, ho, hr⟩ := h
  obtain ⟨v, hv, hR, hF⟩ := hr.2 j _ (List.getElem?_eq_getElem hj)
  have hv0 : inner[j]? = some v := by
    have h1 : ((inner.drop (j * (Kd.full 5 .u8).sz)).take (Kd.full 5 .u8).sz)[0]? = some v := by rw [hv]; rfl
    rw [List.getElem?_take, if_pos (by decide), List.getElem?_drop] at h1
    have h2 : j * (Kd.full 5 .u8).sz + 0 = j := Nat.mul_one j
    rw [h2] at h1
    exact h1
  refine ⟨v, ?_, hF, fun e => ?_⟩
  · have := ho.cells (g := gl) rfl j v hv0
    rwa [addr_add_plain] at this
  · obtain ⟨c1, h1⟩ := own_typed ho gl rfl
    obtain ⟨c2, h2⟩ := Kd.R_typed hR gl e
    rw [h1] at h2
    injection h2 with h2
    injection h2 with _ h2
    exact absurd h2 (by decide)
set_option maxHeartbeats 8000000 in
set_option maxRecDepth 100000 in
theorem spoil_each (base : Nat) (v : Value) (w : World) (h : Full .u8 w base v) :
    Calls Try.prog 7 #[v, .int .u8 1] w fun e w' => e = .returned (.tuple #[]) ∧ Below base w w' ∧ (∀ j, some j ≠ v.ownBlock → w'.heap[j]? = w.heap[j]?) ∧ ∀ u, Full .u8 w base u → Full .u8 w' base u := by
  rcases h with rfl | ⟨g, n, cap, rfl, hg, hR, hn, hc⟩
  · refine (bspoil_nil w).mono ?_
    rintro e w' ⟨rfl, rfl⟩
    exact ⟨rfl, Below.refl _ _, fun _ _ => rfl, fun _ q => q⟩
  · have hc2 : cap ≤ 9223372036854775807 := by unfold maxLen at hc; omega
    clear hc
    have q1 : (0 : Int) ≤ cap := by omega
    have q2 : (cap : Int) ≤ cap := by omega
    have q3 : (n : Int) ≤ cap := by omega
    have HG := Aside0.mk hg
    clear hg
    go_enter Try.func7, Try.ntmps7
    go_wp2
    go_loopw [4] (fun i wr => ∃ j : Nat, j ≤ cap ∧ i = .int .i64 j ∧ Aside0 (∀ c, Room .u8 w g c → Room .u8 wr g c) ∧ Aside0 ((∀ j, j ≠ g → wr.heap[j]? = w.heap[j]?) ∧ Below g w wr)) (fun i _ => cap - (intOf i).toNat)
    case atStart => exact ⟨0, Nat.zero_le _, rfl, ⟨fun _ q => q⟩, ⟨fun _ _ => rfl, Below.refl _ _⟩⟩
    case round =>
      obtain ⟨j, hj, rfl, hM, hB⟩ := hrel
      by_cases hjl : j < cap
      · obtain ⟨⟨x, cj⟩, fj⟩ := (hM.out cap hR).2 j hjl
        have q4 : (0 : Int) ≤ j := by omega
        have q5 : (j : Int) < cap := by omega
        have HR := Aside0.mk hR
        clear hR
        go_wp2
        go_roundw
        case rel => exact ⟨j + 1, by omega, by first | rfl | go_num, ⟨fun c q => (hM.out c q).set j _⟩, ⟨fun q hq => (Below.heap_setCell _ ⟨g, j, none⟩ _ q hq).trans (hB.out.1 q hq), hB.out.2.setCell (p := ⟨g, j, none⟩) (Nat.le_refl _) _⟩⟩
        case measure => simp [intOf]; omega
      · have q9 : ¬ ((j : Int) < cap) := by omega
        go_wp2
        go_end0
        refine ⟨rfl, hB.out.2.mono HG.out, fun q hq => hB.out.1 q (fun e => hq (by rw [e]; rfl)), fun u hu => ?_⟩
        rcases hu with rfl | ⟨g2, n2, cap2, rfl, hg2, hR2, hn2, hc2⟩
        · exact Or.inl rfl
        · by_cases e : g2 = g
          · subst e
            exact Or.inr ⟨g2, n2, cap2, rfl, hg2, hM.out cap2 hR2, hn2, hc2⟩
          · exact Or.inr ⟨g2, n2, cap2, rfl, hg2, hR2.same hB.out.2.size (hB.out.1 g2 e), hn2, hc2⟩
end Go.Proofs.Ytcbcdjpnhmjkoaa.PAll
