/- page.laid, walked by hand: its variable is an array. -/
import Derived.Test.YtkecgmoaojklbaaPAllx2
import Derived.Laws.MakeOwn
set_option linter.unusedVariables false
set_option linter.unusedSimpArgs false
namespace Go.Proofs.Ytkecgmoaojklbaa.PAll
open Go.RowKit Go.Proofs.YtkecgmoaojklbaaVW.PrintWords Go.Proofs.YtkecgmoaojklbaaVW.PrintLast Go.Proofs.YtkecgmoaojklbaaVW.PrintMore
attribute [local go_sem] max2_int min2_int max_two min_two max_three min_three max_four min_four   -- for this text's walks alone
/-- Bytes as cells. -/
def bytes (l : List Int) : Array Value := (l.map (fun x => Value.int .u8 x)).toArray
theorem bytes_size (l : List Int) : (bytes l).size = l.length := by simp [bytes]
/-- A block that holds just these bytes. -/
def Brow (w : World) (g : Nat) (l : List Int) : Prop := ∃ t, w.heap[g]? = some (.cells (bytes l) t (0, 0))
theorem Brow.lt {w : World} {g : Nat} {l : List Int} (h : Brow w g l) : g < w.heap.size := by
  obtain ⟨t, h⟩ := h
  exact (Array.getElem?_eq_some_iff.1 h).1
theorem Brow.below {w w' : World} {g : Nat} {l : List Int} (h : Brow w g l) (hb : Below w.heap.size w w') : Brow w' g l := by
  have hl := h.lt
  obtain ⟨t, h⟩ := h
  exact ⟨t, (hb.block g hl).trans h⟩
theorem Brow.far {w : World} {g : Nat} {l : List Int} (h : Brow w g l) {a : Addr} (ha : g ≠ a.block) (u : Value) : Brow (w.setCell a u) g l := by
  obtain ⟨t, h⟩ := h
  exact ⟨t, (Below.heap_setCell w a u g ha).trans h⟩
theorem Brow.set {w : World} {g : Nat} {l : List Int} (h : Brow w g l) (i : Nat) (v : Int) : Brow (w.setCell ⟨g, i, none⟩ (.int .u8 v)) g (l.set i v) := by
  obtain ⟨t, h⟩ := h
  refine ⟨t, ?_⟩
  rw [setCell_rowF h i]
  simp [bytes, List.map_set]
theorem Brow.free {w : World} {g : Nat} {l : List Int} (h : Brow w g l) (i : Nat) : w.frozen? ⟨g, i, none⟩ = false := by
  obtain ⟨t, h⟩ := h
  exact frozen_of_row w g i _ t h
theorem Brow.cell {w : World} {g : Nat} {l : List Int} (h : Brow w g l) {i : Nat} (hi : i < l.length) : w.cell? ⟨g, i, none⟩ = some (.int .u8 (rd l (i : Int))) := by
  obtain ⟨t, h⟩ := h
  rw [cell_of_row w g i _ t _ h]
  unfold rd
  rw [Int.toNat_natCast, List.getD_eq_getElem?_getD, List.getElem?_eq_getElem hi]
  simp [bytes, hi]
theorem Brow.reads {w : World} {g : Nat} {l : List Int} (h : Brow w g l) (i : Nat) (hi : i ≤ l.length) (hl : l.length ≤ 1000000) : Kd.C (Kd.int .u8) w (some ⟨g, i, none⟩) (l.length - i) (l.drop i) := by
  refine Kd.C_of_reads (d := (0 : Int)) (h1 := fun _ => rfl) ⟨List.length_drop, by omega, fun _ => ⟨_, rfl, fun j hj => ?_⟩⟩
  have e : (⟨g, i, none⟩ : Addr).add j = ⟨g, i + j, none⟩ := Addr.add_lit _ _ _
  rw [e, h.cell (by omega)]
  unfold rd
  rw [Int.toNat_natCast, List.getD_eq_getElem?_getD, List.getD_eq_getElem?_getD, List.getElem?_drop]
theorem info36 : (Try.prog.info? 43).map (fun i => (i.zero, i.size, i.bytes)) = some (some (.agg (bytes (List.replicate 512 0))), 512, 512) := by kernel_rfl
theorem zero36 (W : World) : (zeroValue 43).run Try.prog W = .ok (.agg (bytes (List.replicate 512 0))) W := by
  obtain ⟨i, hi, h⟩ := Option.map_eq_some_iff.1 info36
  simp only [Prod.mk.injEq] at h
  obtain ⟨Z, hZ⟩ : ∃ Z, Z = bytes (List.replicate 512 0) := ⟨_, rfl⟩
  rw [← hZ] at h ⊢
  simp [zeroValue, typeInfo, hi, h.1]
/-- The number's bytes, laid one by one. -/
def nb (n : Int) (j : Nat) : Int := n % 4294967296 / 2 ^ (8 * j) % 256
def ns (n : Int) (Z : List Int) : Nat → List Int
  | 0 => Z
  | j + 1 => (ns n Z j).set (4 + j) (nb n j)
theorem ns_len (n : Int) (Z : List Int) : ∀ j, (ns n Z j).length = Z.length
  | 0 => rfl
  | j + 1 => by rw [ns, List.length_set, ns_len n Z j]
/-- The sum's bytes, laid one by one. -/
def sb (n : Int) (j : Nat) : Int := n / 2 ^ (8 * j) % 256
def ss (n : Int) (Z : List Int) : Nat → List Int
  | 0 => Z
  | j + 1 => (ss n Z j).set j (sb n j)
theorem ss_len (n : Int) (Z : List Int) : ∀ j, (ss n Z j).length = Z.length
  | 0 => rfl
  | j + 1 => by rw [ss, List.length_set, ss_len n Z j]
theorem setCells_row2 (g : Nat) : ∀ (l : List Int) (o : Nat) (w : World) (cur : List Int), Brow w g cur → Brow (w.setCells g o (l.map (fun x => Value.int .u8 x))) g (cur.take o ++ (l ++ cur.drop (o + l.length))) ∨ ¬ (o + l.length ≤ cur.length)
  | [], o, w, cur, h => by
    by_cases hc : o ≤ cur.length
    · left
      rw [List.map_nil, World.setCells, List.nil_append, List.length_nil, Nat.add_zero, List.take_append_drop]
      exact h
    · right
      simpa using hc
  | x :: r, o, w, cur, h => by
    by_cases hc : o + (x :: r).length ≤ cur.length
    · left
      rw [List.length_cons] at hc
      rw [List.map_cons, World.setCells]
      rcases setCells_row2 g r (o + 1) _ _ (h.set o x) with h2 | h2
      · have e : (cur.set o x).take (o + 1) ++ (r ++ (cur.set o x).drop (o + 1 + r.length)) = cur.take o ++ ((x :: r) ++ cur.drop (o + (x :: r).length)) := by
          rw [List.drop_set_of_lt (by omega), List.length_cons, show o + 1 + r.length = o + (r.length + 1) by omega]
          have h3 : (cur.set o x).take (o + 1) = cur.take o ++ [x] := by
            apply List.ext_getElem?
            intro i
            rw [List.getElem?_take, List.getElem?_append, List.length_take, List.getElem?_take, Nat.min_eq_left (by omega)]
            by_cases h1 : i < o
            · rw [if_pos (by omega), if_pos h1, if_pos h1, List.getElem?_set_ne (by omega)]
            · by_cases h2 : i = o
              · subst h2
                rw [if_pos (by omega), if_neg (by omega), List.getElem?_set_self (by omega), Nat.sub_self]
                rfl
              · rw [if_neg (by omega), if_neg h1, List.getElem?_eq_none (by simp; omega)]
          rw [h3, List.append_assoc]
          rfl
        rw [e] at h2
        exact h2
      · rw [List.length_set] at h2
        omega
    · exact Or.inr hc
theorem setCells_same2 (g : Nat) (vs : List Value) (o : Nat) (w : World) : (∀ k, k ≠ g → (w.setCells g o vs).heap[k]? = w.heap[k]?) ∧ Below g w (w.setCells g o vs) := by
  obtain ⟨s1, s2, s3, s4⟩ := setCells_sameF g vs o w
  exact ⟨fun k hk => setCells_farF vs o k hk, ⟨s1, s2, s3, by rw [s4]; exact Nat.le_refl _, fun k hk => setCells_farF vs o k (by omega)⟩⟩
/-- copy into an array, from a place on. -/
theorem brow_copy (W : World) (g o m c : Nat) (l ys : List Int) (A : Option Addr) (ty : TypeId) (n : Nat) (hB : Brow W g l) (hC : Kd.C (Kd.int .u8) W A m ys) (ho : o + m ≤ l.length) (hn : m ≤ n) :
    ∃ W', (Builtin.copy_ #[22, 22] ty #[.slice (some ⟨g, o, none⟩) n n, .slice A m c]).run Try.prog W = .ok (goInt (m : Int)) W' ∧ Brow W' g (l.take o ++ (ys ++ l.drop (o + m))) ∧ (∀ k, k ≠ g → W'.heap[k]? = W.heap[k]?) ∧ Below g W W' := by
  have hml : ys.length = m := hC.1
  have hinfo : (Try.prog.info? 5).map (·.size) = some 1 := by kernel_rfl
  by_cases h0 : m = 0
  · subst h0
    obtain rfl : ys = [] := List.eq_nil_of_length_eq_zero hml
    refine ⟨W, run_copy_none W 22 22 ty 5 _ A n n 0 c Try.underlying22 hinfo (Nat.zero_min _), ?_, fun _ _ => rfl, Below.refl _ _⟩
    simpa using hB
  · obtain ⟨ad, rfl, _⟩ := Kd.at_int hC 0 (by omega) (by omega)
    have hat : ∀ j u, (ys.map (fun x => Value.int .u8 x))[j]? = some u → W.cell? (ad.add j) = some u := by
      intro j u hj
      rw [List.getElem?_map] at hj
      obtain ⟨x, hx, rfl⟩ := Option.map_eq_some_iff.1 hj
      obtain ⟨hlt, hxe⟩ := List.getElem?_eq_some_iff.1 hx
      obtain ⟨ad', e, hcell⟩ := Kd.at_int hC (j : Int) (by omega) (by omega)
      cases e
      rw [Int.toNat_natCast] at hcell
      rw [hcell]
      unfold rd
      rw [Int.toNat_natCast, List.getD_eq_getElem?_getD, hx]
      rfl
    have hl : (ys.map (fun x => Value.int .u8 x)).length = m := by rw [List.length_map, hml]
    have hr := run_copy_cells (P := Try.prog) W 22 22 ty 5 g o n n ad m c (ys.map (fun x => Value.int .u8 x)) Try.underlying22 hinfo (by rw [hl]; exact (Nat.min_eq_left hn).symm) hat
      (fun j hj => by rw [hl] at hj; rw [hB.cell (by omega)]; rfl) (fun j hj => hB.free _) (fun u h => by obtain ⟨_, _, rfl⟩ := List.mem_map.1 h; rfl)
    rw [hl] at hr
    obtain ⟨h1, h2⟩ := setCells_same2 g (ys.map (fun x => Value.int .u8 x)) o W
    refine ⟨_, hr, ?_, h1, h2⟩
    rcases setCells_row2 g ys o W l hB with h | h
    · rwa [hml] at h
    · rw [hml] at h
      exact absurd ho h
theorem wpList_copy {P : Program} (w : World) {ops : Array Oper} {rest : List Oper} {o : Oper} {a : Act} {Q : Exit → Act → World → Prop}
    (hg : o.guard = none) (s x : Operand) (t : TypeId) (hop : o.op = Op.call { callee := Callee.builtin Builtin.copy, args := #[s, x], argTypes := #[t, t] })
    (v u : Value) (hs : a.eval s = v) (hx : a.eval x = u) (v' : Value) (w' : World) (hrun : (Builtin.copy_ #[t, t] o.type #[v, u]).run P w = .ok v' w')
    (hK : wpList P ops Q rest (a.put o.dst v') w') : wpList P ops Q (o :: rest) a w := by
  refine wpList_plain hg fun K hK' => ?_
  unfold Oper.wp execOp
  simp only [hop, resolve, invoke, builtin, Sem.run_bind, Sem.run_pure, Result.andThen_ok, List.map_toArray, List.map_cons, List.map_nil, hs, hx, hrun]
  exact hK' _ _ hK
/-- The page ahead of its sum. -/
def headed (n kind : Int) (l : List Int) : List Int := (((ns n (List.replicate 512 0) 4).set 8 kind).set 10 ((l.length : Int) % 256)).set 11 ((l.length : Int) / 256)
def laidm (n kind : Int) (l : List Int) : List Int := (headed n kind l).take 12 ++ (l ++ (headed n kind l).drop (12 + l.length))
theorem headed_len (n kind : Int) (l : List Int) : (headed n kind l).length = 512 := by
  unfold headed
  rw [List.length_set, List.length_set, List.length_set, ns_len]
  exact List.length_replicate
theorem laidm_len (n kind : Int) (l : List Int) (h : l.length ≤ 496) : (laidm n kind l).length = 512 := by
  unfold laidm
  rw [List.length_append, List.length_append, List.length_take, List.length_drop, headed_len]
  omega
/-- The page. -/
def laidp (s n kind : Int) (l : List Int) : List Int := ss s (laidm n kind l) 4
theorem laidp_len (s n kind : Int) (l : List Int) (h : l.length ≤ 496) : (laidp s n kind l).length = 512 := by
  unfold laidp
  rw [ss_len, laidm_len n kind l h]
theorem bytes_one (l : List Int) : (bytes l).all (·.oneCell') = true := by
  rw [Array.all_eq_true']
  intro x hx
  simp only [bytes, List.mem_toArray, List.mem_map] at hx
  obtain ⟨y, _, rfl⟩ := hx
  rfl
theorem size36 : (Try.prog.info? 43).map (·.size) = some 512 := by
  obtain ⟨i, hi, h⟩ := Option.map_eq_some_iff.1 info36
  simp only [Prod.mk.injEq] at h
  rw [hi, Option.map_some, h.2.1]
theorem Brow.setRow {w : World} {g : Nat} {l m : List Int} (h : Brow w g l) : Brow (w.setRow g (bytes m)) g m := by
  obtain ⟨t, h⟩ := h
  exact ⟨t, setRow_heap w g _ _ t (0, 0) h⟩
theorem below_setRow {B : Nat} {w w' : World} (h : Below B w w') {g : Nat} (hg : B ≤ g) (cs : Array Value) : Below B w (w'.setRow g cs) :=
  ⟨h.os, h.tape, h.output, by have := h.size; simpa [World.setRow] using this, fun k hk => by
    have : (w'.setRow g cs).heap[k]? = w'.heap[k]? := by
      simp only [World.setRow, Array.getElem?_modify]
      rw [if_neg (by omega)]
    rw [this]; exact h.block k hk⟩
set_option maxHeartbeats 8000000 in
set_option maxRecDepth 100000 in
theorem laid_calls (k : Nat) (s : Int) (n kind : Int) (A0 : Option Addr) (c0 : Nat) (l0 : List Int) (w : World) (hr0 : Kd.C (Kd.int .u8) w A0 l0.length l0) (hc0 : l0.length ≤ c0) (hl : l0.length ≤ 496) (hcrc : crc_Of.f k ((laidm n kind l0).drop 4) = some s) :
    Calls Try.prog 21 #[.int .i64 n, .int .u8 kind, .slice A0 l0.length c0] w fun e w' => e = .returned (.agg (bytes (laidp s n kind l0))) ∧ Below w.heap.size w w' := by
  have HS := Aside0.mk hcrc
  clear hcrc
  have HR0 := Aside0.mk hr0
  have HC0 := Aside0.mk hc0
  clear hr0 hc0
  have hz := zero36
  obtain ⟨Z, hZ⟩ : ∃ Z, Z = List.replicate 512 (0 : Int) := ⟨_, rfl⟩
  rw [← hZ] at hz
  have HZ := Aside0.mk hZ
  clear hZ
  go_enter Try.func21, Try.ntmps21
  go_wp2
  go_loopw [11] (fun i wr => ∃ j : Nat, j ≤ 4 ∧ i = .int .i64 j ∧ Aside0 (Brow wr (w.heap.size + 1) (ns n Z j)) ∧ Aside0 (Brow wr w.heap.size Z) ∧ Aside0 (Below w.heap.size w wr)) (fun i _ => 4 - (intOf i).toNat)
  case atStart => exact ⟨0, Nat.zero_le _, rfl, by
    have h := heap_alloc_new (w.alloc (Obj.cells (bytes Z) 43)) (Obj.cells (bytes Z) 43)
    rw [show (w.alloc (Obj.cells (bytes Z) 43)).heap.size = w.heap.size + 1 from Array.size_push ..] at h
    exact ⟨⟨43, h⟩⟩, ⟨(show Brow (w.alloc (Obj.cells (bytes Z) 43)) w.heap.size Z from ⟨43, heap_alloc_new w _⟩).below (below_alloc (Below.refl _ _) _)⟩, ⟨below_alloc (below_alloc (Below.refl _ w) _) _⟩⟩
  case round =>
    obtain ⟨j, hj, rfl, hP, hR, hB⟩ := hrel
    have hlen : (ns n Z j).length = 512 := by rw [ns_len, HZ.out]; exact List.length_replicate
    by_cases hjl : j < 4
    · have q1 : (0 : Int) ≤ 4 + (j : Int) := by omega
      have q2 : (4 : Int) + (j : Int) < 512 := by omega
      have q3 : (j : Int) < 4 := by omega
      have q4 : (0 : Int) ≤ 8 * (j : Int) := by omega
      have e9 : ((4 : Int) + (j : Int)).toNat = 4 + j := by omega
      have ci := hP.out.cell (i := 4 + j) (by omega)
      have fi := hP.out.free (4 + j)
      have hS := hP.out.set (4 + j) (nb n j)
      have HSJ : Aside0 (Brow (wr.setCell ⟨w.heap.size + 1, 4 + j, none⟩ (.int .u8 (nb n j))) (w.heap.size + 1) (ns n Z (j + 1))) := ⟨hS⟩
      clear hS hP
      go_wp2
      go_roundw
      case rel => exact ⟨j + 1, by omega, by first | rfl | go_num, HSJ, ⟨hR.out.far (by show w.heap.size ≠ w.heap.size + 1; omega) _⟩, ⟨hB.out.setCell (p := ⟨w.heap.size + 1, 4 + j, none⟩) (by show w.heap.size ≤ w.heap.size + 1; omega) _⟩⟩
      case measure => simp [intOf]; omega
    · have ej : j = 4 := by omega
      subst ej
      obtain ⟨P1, hP1⟩ : ∃ P1, P1 = ns n Z 4 := ⟨_, rfl⟩
      rw [← hP1] at hP hlen
      have HP1 := Aside0.mk hP1
      clear hP1 hjl hj
      have c8 := hP.out.cell (i := 8) (by omega)
      have c10 := hP.out.cell (i := 10) (by omega)
      have c11 := hP.out.cell (i := 11) (by omega)
      have f8 := hP.out.free 8
      have f10 := hP.out.free 10
      have f11 := hP.out.free 11
      have hP3 := ((hP.out.set 8 kind).set 10 ((l0.length : Int) % 256)).set 11 ((l0.length : Int) / 256)
      have eP3 : (((P1.set 8 kind).set 10 ((l0.length : Int) % 256)).set 11 ((l0.length : Int) / 256)) = headed n kind l0 := by rw [HP1.out, HZ.out]; rfl
      rw [eP3] at hP3
      have HP3 := Aside0.mk hP3
      have HB3 := Aside0.mk (((hB.out.setCell (p := ⟨w.heap.size + 1, 8, none⟩) (by show w.heap.size ≤ w.heap.size + 1; omega) (.int .u8 kind)).setCell (p := ⟨w.heap.size + 1, 10, none⟩) (by show w.heap.size ≤ w.heap.size + 1; omega) (.int .u8 ((l0.length : Int) % 256))).setCell (p := ⟨w.heap.size + 1, 11, none⟩) (by show w.heap.size ≤ w.heap.size + 1; omega) (.int .u8 ((l0.length : Int) / 256)))
      have HR3 := Aside0.mk (((hR.out.far (a := ⟨w.heap.size + 1, 8, none⟩) (by show w.heap.size ≠ w.heap.size + 1; omega) (.int .u8 kind)).far (a := ⟨w.heap.size + 1, 10, none⟩) (by show w.heap.size ≠ w.heap.size + 1; omega) (.int .u8 ((l0.length : Int) % 256))).far (a := ⟨w.heap.size + 1, 11, none⟩) (by show w.heap.size ≠ w.heap.size + 1; omega) (.int .u8 ((l0.length : Int) / 256)))
      clear hP3 eP3 hP hB hR
      have hl4 : ((laidm n kind l0).drop 4).length = 508 := by rw [List.length_drop, laidm_len n kind l0 hl]
      have HL4 := Aside0.mk hl4
      clear hl4
      go_wp2_with (first
        | ((with_reducible refine gate_builtin (b := .copy) (xs := #[.tmp 36, .tmp 37]) rfl ?_); obtain ⟨W4, hr4, hb4, hk4, hbl4⟩ := brow_copy _ (w.heap.size + 1) 12 l0.length c0 _ l0 A0 3 500 HP3.out (Kd.C_below HR0.out HB3.out) (by rw [headed_len]; omega) (by omega); refine wpList_copy _ rfl (.tmp 36) (.tmp 37) 22 rfl _ _ rfl rfl _ W4 hr4 ?_; have HP4 : Aside0 (Brow W4 (w.heap.size + 1) (laidm n kind l0)) := ⟨hb4⟩; have HR4 : Aside0 (Brow W4 w.heap.size Z) := ⟨(HR3.out.imp fun t ht => (hk4 _ (by omega)).trans ht)⟩; have HB4 := Aside0.mk (HB3.out.trans (hbl4.mono (by omega))); clear hr4 hb4 hk4 hbl4)
        | (go_at_call 23; refine calls_of_args (args' := #[.slice (some ⟨w.heap.size + 1, 4, none⟩) ((laidm n kind l0).drop 4).length 508]) (by rw [HL4.out]) ?_; refine (crc_Of.calls k _ 508 ((laidm n kind l0).drop 4) s W4 (by rw [List.length_drop]; exact HP4.out.reads 4 (by rw [laidm_len n kind l0 hl]; omega) (by rw [laidm_len n kind l0 hl]; omega)) (Nat.le_of_eq HL4.out) HS.out).mono ?_; rintro e w' ⟨rfl, ⟨nd, rfl⟩⟩))
      have HP5 : Aside0 (Brow (W4.drewN nd) (w.heap.size + 1) (ss s (laidm n kind l0) 0)) := ⟨HP4.out.below (pw_below_drewN (Below.refl _ _) nd)⟩
      have HR5 : Aside0 (Brow (W4.drewN nd) w.heap.size Z) := ⟨HR4.out.below (pw_below_drewN (Below.refl _ _) nd)⟩
      have HB5 := Aside0.mk (pw_below_drewN HB4.out nd)
      clear HP4 HR4 HB4 HP3 HB3 HR3 c8 c10 c11 f8 f10 f11
      go_loopw [41] (fun i wv => ∃ j : Nat, j ≤ 4 ∧ i = .int .i64 j ∧ Aside0 (Brow wv (w.heap.size + 1) (ss s (laidm n kind l0) j)) ∧ Aside0 (Brow wv w.heap.size Z) ∧ Aside0 (Below w.heap.size w wv)) (fun i _ => 4 - (intOf i).toNat)
      case atStart => exact ⟨0, Nat.zero_le _, rfl, HP5, HR5, HB5⟩
      case round =>
        clear HP5 HR5 HB5
        obtain ⟨j, hj, rfl, hP, hR, hB⟩ := hrel
        have hlen2 : (ss s (laidm n kind l0) j).length = 512 := by rw [ss_len, laidm_len n kind l0 hl]
        by_cases hjl : j < 4
        · have q1 : (0 : Int) ≤ (j : Int) := by omega
          have q2 : (j : Int) < 512 := by omega
          have q3 : (j : Int) < 4 := by omega
          have q4 : (0 : Int) ≤ 8 * (j : Int) := by omega
          have ci := hP.out.cell (i := j) (by omega)
          have fi := hP.out.free j
          have hS := hP.out.set j (sb s j)
          have HSJ : Aside0 (Brow (wr.setCell ⟨w.heap.size + 1, j, none⟩ (.int .u8 (sb s j))) (w.heap.size + 1) (ss s (laidm n kind l0) (j + 1))) := ⟨hS⟩
          clear hS hP
          go_wp2
          go_roundw
          case rel => exact ⟨j + 1, by omega, by first | rfl | go_num, HSJ, ⟨hR.out.far (by show w.heap.size ≠ w.heap.size + 1; omega) _⟩, ⟨hB.out.setCell (p := ⟨w.heap.size + 1, j, none⟩) (by show w.heap.size ≤ w.heap.size + 1; omega) _⟩⟩
          case measure => simp [intOf]; omega
        · have ej : j = 4 := by omega
          subst ej
          have eL : ss s (laidm n kind l0) 4 = laidp s n kind l0 := rfl
          rw [eL] at hP hlen2
          clear hjl hj eL
          obtain ⟨t2, hg2⟩ := hP.out
          obtain ⟨t3, hg3⟩ := hR.out
          have hsz2 : (bytes (laidp s n kind l0)).size = 512 := by rw [bytes_size, hlen2]
          have hsz3 : (bytes Z).size = 512 := by rw [bytes_size, HZ.out]; exact List.length_replicate
          obtain ⟨B, hBB⟩ : ∃ B, B = bytes (laidp s n kind l0) := ⟨_, rfl⟩
          have hone : B.all (·.oneCell') = true := by rw [hBB]; exact bytes_one _
          rw [← hBB] at hg2 hsz2
          obtain ⟨BZ, hBZ⟩ : ∃ BZ, BZ = bytes Z := ⟨_, rfl⟩
          rw [← hBZ] at hg3 hsz3
          have HBB := Aside0.mk hBB
          clear hBB hBZ hz
          go_wp2_with (first | (refine wpList_load_row rfl 43 (.tmp 7) rfl (w.heap.size + 1) rfl t2 B (0, 0) _ hg2 Try.underlying43 rfl (by rw [hsz2]; exact size36) ?_) | (refine wpList_store_row rfl 43 (.tmp 6) (.tmp 52) rfl w.heap.size B rfl rfl t3 BZ hg3 (by rw [hsz2]; exact size36) (by rw [hsz2, hsz3]) hone ?_))
          have hg4 : (wr.setRow w.heap.size B).heap[w.heap.size]? = some (.cells B t3 (0, 0)) := setRow_heap wr w.heap.size _ _ t3 (0, 0) hg3
          try simp only [Exit.inBlock, Exit.then]
          refine bodyPost_ret (results_cell_row rfl _ _ w.heap.size t3 B (0, 0) _ rfl hg4 Try.underlying43 rfl (by rw [hsz2]; exact size36)) rfl ?_
          exact ⟨by rw [HBB.out], below_setRow hB.out (Nat.le_refl _) _⟩
end Go.Proofs.Ytkecgmoaojklbaa.PAll
