/- ShardFiles, walked by hand. Conditions: the acts lie in memory as told; what the layer's functions answer is told. -/
import Derived.Test.YtjefgdggjchhbaaFsOne
import Derived.Test.YtjefgdggjchhbaaNilWalk
set_option linter.unusedVariables false
set_option linter.unusedSimpArgs false
namespace Go.Proofs.Ytjefgdggjchhbaa.PAll
open Go.RowKit Go.Proofs.YtjefgdggjchhbaaVW.PrintWords Go.Proofs.YtjefgdggjchhbaaVW.PrintLast Go.Proofs.YtjefgdggjchhbaaVW.PrintMore
attribute [local go_sem] max2_int min2_int max_two min_two
set_option maxHeartbeats 8000000
set_option maxRecDepth 100000
theorem off_nil (w : World) : Off w none := Or.inl rfl
theorem files_bad {k : Nat} {room number : Int} {A : Option Addr} {n cl : Nat} {w : World} (hLv : Living k) (h : room < 0 ∨ 1048576 < room) :
    Calls Try.prog 7 #[.int .i64 room, .int .i64 number, .slice A n cl] w fun e w' => e = .returned (.bool true) ∧ Below w.heap.size w w' := by
  have HLV := Aside0.mk hLv
  clear hLv
  have HB := Aside0.mk h
  clear h
  go_enter Try.func7, Try.ntmps7
  go_wp2_with (first
    | (go_at_call 27; (with_reducible refine (new_bad HB.out).mono ?_); rintro e w1 ⟨rfl, hb⟩; have B1 := Aside0.mk hb; clear hb)
    | (go_at_call 25; (with_reducible refine (make_off w1 none _ _ (off_nil w1)).mono ?_); rintro e w2 ⟨rfl, hb⟩; have B2 := Aside0.mk (below_step B1.out hb); clear hb)
    | ((try (refine gate_guard (by rfl) ?_; dsimp only)); go_at_call 15; (with_reducible refine (lives_calls k _ HLV.out).mono ?_); rintro e wl ⟨rfl, hbl⟩))
  go_ret
  exact ⟨rfl, below_step B2.out hbl⟩
theorem files_head {k : Nat} {room number : Int} {A : Option Addr} {n cl : Nat} {w : World} (hLv : Living k) {b : List Int} {q : Int} (ha : ¬ room < 0) (hz : ¬ 1048576 < room) (h1 : shard_Head.f k number = some (b, q)) (h2 : stookref21_Head.f k number = some (b, q)) (hq : q ≠ 0) :
    Calls Try.prog 7 #[.int .i64 room, .int .i64 number, .slice A n cl] w fun e w' => e = .returned (.bool true) ∧ Below w.heap.size w w' := by
  have HLV := Aside0.mk hLv
  clear hLv
  have HA := Aside0.mk ha
  have HZ := Aside0.mk hz
  have HS := Aside0.mk h1
  have HT := Aside0.mk h2
  have q1 : (q == 0) = false := beq_eq_false_iff_ne.mpr hq
  have q2 : (q != 0) = true := bne_iff_ne.mpr hq
  have HQ := Aside0.mk hq
  clear ha hz h1 h2 hq
  go_enter Try.func7, Try.ntmps7
  go_wp2_with (first
    | (go_at_call 27; (with_reducible refine (new_ok HA.out HZ.out).mono ?_); rintro e w1 ⟨g, rfl, ⟨mf, ms, mn, hd⟩, hb⟩; have B1 := Aside0.mk hb; have D1 := Aside0.mk hd; clear hb hd)
    | (go_at_call 25; (with_reducible refine (make_bad D1.out B1.out.size HS.out HQ.out).mono ?_); rintro e w2 ⟨rfl, hb⟩; have B2 := Aside0.mk (below_step B1.out hb); clear hb)
    | (go_at_call 10; (with_reducible refine (stookref21_Head.calls k number b q w2 HT.out).mono ?_); rintro e w3 ⟨v, rfl, ho, hb⟩; obtain ⟨Ab, cb, eb⟩ := Kd.R_slice ho; subst eb; have B3 := Aside0.mk (below_step B2.out hb); have O3 := Aside0.mk ho; clear ho hb)
    | ((try (refine gate_guard (by rfl) ?_; dsimp only)); go_at_call 15; (with_reducible refine (lives_calls k _ HLV.out).mono ?_); rintro e wl ⟨rfl, hbl⟩))
  go_ret
  exact ⟨rfl, below_step B3.out hbl⟩
theorem files_full {k : Nat} {room number : Int} {A : Option Addr} {n cl : Nat} {w : World} (hLv : Living k) {b : List Int} (ha : ¬ room < 0) (hz : ¬ 1048576 < room) (h1 : shard_Head.f k number = some (b, 0)) (h2 : stookref21_Head.f k number = some (b, 0)) (hl : 0 < b.length) (hf : room < b.length) :
    Calls Try.prog 7 #[.int .i64 room, .int .i64 number, .slice A n cl] w fun e w' => e = .returned (.bool true) ∧ Below w.heap.size w w' := by
  have HLV := Aside0.mk hLv
  clear hLv
  have HA := Aside0.mk ha
  have HZ := Aside0.mk hz
  have HS := Aside0.mk h1
  have HT := Aside0.mk h2
  have q1 : decide (room < (b.length : Int)) = true := decide_eq_true hf
  have HL := Aside0.mk hl
  have HF := Aside0.mk hf
  have HR := Aside0.mk (Int.not_lt.1 hz)
  have HP := Aside0.mk (Int.not_lt.1 ha)
  clear ha hz h1 h2 hl hf
  go_enter Try.func7, Try.ntmps7
  go_wp2_with (first
    | (go_at_call 27; (with_reducible refine (new_ok HA.out HZ.out).mono ?_); rintro e w1 ⟨g, rfl, ⟨mf, ms, mn, hd⟩, hb⟩; have B1 := Aside0.mk hb; have D1 := Aside0.mk hd; clear hb hd)
    | (go_at_call 25; (with_reducible refine (make_full D1.out B1.out.size HS.out HR.out HP.out HL.out HF.out).mono ?_); rintro e w2 ⟨rfl, hb⟩; have B2 := Aside0.mk (B1.out.trans hb); clear hb)
    | (go_at_call 10; (with_reducible refine (stookref21_Head.calls k number b 0 w2 HT.out).mono ?_); rintro e w3 ⟨v, rfl, ho, hb⟩; obtain ⟨Ab, cb, eb⟩ := Kd.R_slice ho; subst eb; have B3 := Aside0.mk (below_step B2.out hb); have O3 := Aside0.mk ho; clear ho hb)
    | ((try (refine gate_guard (by rfl) ?_; dsimp only)); go_at_call 15; (with_reducible refine (lives_calls k _ HLV.out).mono ?_); rintro e wl ⟨rfl, hbl⟩))
  go_ret
  exact ⟨rfl, below_step B3.out hbl⟩
/-- A row of acts. -/
def acts : Kd (Int × Int × Bool × List Int) := Kd.pair (Kd.int .i64) (Kd.pair (Kd.int .i64) (Kd.pair Kd.bool (Kd.slice 5 (Kd.int .u8))))
theorem act_at {w : World} {A : Option Addr} {n : Nat} {xs : List (Int × Int × Bool × List Int)} (h : acts.C w A n xs) (i : Int) (h0 : 0 ≤ i) (h1 : i < n) (z : Int × Int × Bool × List Int) :
    ∃ ad Ad cd, A = some ad ∧ w.cell? (ad.add (i.toNat * 4)) = some (.int .i64 (xs.getD i.toNat z).1) ∧ w.cell? ⟨(ad.add (i.toNat * 4)).block, (ad.add (i.toNat * 4)).off + 1, none⟩ = some (.int .i64 (xs.getD i.toNat z).2.1) ∧ w.cell? ⟨(ad.add (i.toNat * 4)).block, (ad.add (i.toNat * 4)).off + 2, none⟩ = some (.bool (xs.getD i.toNat z).2.2.1) ∧ w.cell? ⟨(ad.add (i.toNat * 4)).block, (ad.add (i.toNat * 4)).off + 3, none⟩ = some (.slice Ad (xs.getD i.toNat z).2.2.2.length cd) ∧
      (xs.getD i.toNat z).2.2.2.length ≤ cd ∧ Kd.C (Kd.int .u8) w Ad (xs.getD i.toNat z).2.2.2.length (xs.getD i.toNat z).2.2.2 := by
  obtain ⟨ad, c, e, hl, hK, hc⟩ := Kd.C_get h z i h0 h1
  have hc : ∀ j u, c[j]? = some u → w.cell? (ad.add (i.toNat * 4 + j)) = some u := hc
  obtain ⟨c1, c2, rfl, k1, c3, c4, rfl, k2, c5, c6, rfl, k3, Ad, cd, k4, hle, hr⟩ := hK
  have e1 : c1 = [.int .i64 (xs.getD i.toNat z).1] := k1
  have e2 : c3 = [.int .i64 (xs.getD i.toNat z).2.1] := k2
  have e3 : c5 = [.bool (xs.getD i.toNat z).2.2.1] := k3
  subst e1
  subst e2
  subst e3
  subst k4
  have ea : ∀ j : Nat, (⟨(ad.add (i.toNat * 4)).block, (ad.add (i.toNat * 4)).off + (j + 1), none⟩ : Addr) = ad.add (i.toNat * 4 + (j + 1)) := fun j => by rw [← Addr.add_add, Addr.add_succ']
  exact ⟨ad, Ad, cd, e, hc 0 _ rfl, by rw [ea 0]; exact hc 1 _ rfl, by rw [ea 1]; exact hc 2 _ rfl, by rw [ea 2]; exact hc 3 _ rfl, hle, hr⟩
theorem cell_below {w w' : World} {p : Addr} {v : Value} (h : w.cell? p = some v) (hb : Below w.heap.size w w') : w'.cell? p = some v := (hb.cell (World.block_lt_of_cell? _ _ h)).trans h
theorem step_free {w0 w : World} {g : Nat} {room free : Int} {F : List Int} {m : Nat} {v : Value} {do_ n : Int} {any : Bool} {Ad : Option Addr} {D : List Int} {cd : Nat} (hfr : free = room - (F.length : Int)) (h : At w0 w g room F m v) (hD : Kd.C (Kd.int .u8) w0 Ad D.length D) (hc : D.length ≤ cd) (hDb : Leb.Bytes D) (hFb : Leb.Bytes F) (hr : room ≤ 1048576) (hF : (F.length : Int) ≤ room) (hm : m ≤ 10000) :
    Calls Try.prog 28 #[.pointer (some ⟨g, 0, none⟩), v, .agg #[.int .i64 do_, .int .i64 n, .bool any, .slice Ad D.length cd], .int .i64 free] w fun e w' => Pure.After w0 w' g room m e := hfr ▸ Pure.step_on h hD hc hDb hFb hr hF hm
theorem room_sub {room : Int} {a : Nat} (h0 : 0 ≤ room) (h1 : room ≤ 1048576) (h2 : (a : Int) ≤ room) : wrap64 (room - (a : Int)) = room - (a : Int) := by
  unfold wrap64
  omega
theorem files_loop {k : Nat} {room number : Int} {A : Option Addr} {cl : Nat} {w : World} {l : List (Int × Int × Bool × List Int)} (hLv : Living k) (hac : acts.C w A l.length l) (hcl : l.length ≤ cl) (hab : ∀ x ∈ l, Leb.Bytes x.2.2.2) {b : List Int} (ha : ¬ room < 0) (hz : ¬ 1048576 < room) (h1 : shard_Head.f k number = some (b, 0)) (h2 : stookref21_Head.f k number = some (b, 0)) (hl : 0 < b.length) (hf : (b.length : Int) ≤ room) (hby : Leb.Bytes b) :
    Calls Try.prog 7 #[.int .i64 room, .int .i64 number, .slice A l.length cl] w fun e w' => e = .returned (.bool true) ∧ Below w.heap.size w w' := by
  have HLV := Aside0.mk hLv
  clear hLv
  have HA := Aside0.mk ha
  have HZ := Aside0.mk hz
  have HS := Aside0.mk h1
  have HT := Aside0.mk h2
  have q1 : decide (room < (b.length : Int)) = false := decide_eq_false (by omega)
  have HL := Aside0.mk hl
  have HF := Aside0.mk hf
  have HR := Aside0.mk (Int.not_lt.1 hz)
  have HP := Aside0.mk (Int.not_lt.1 ha)
  have HBy := Aside0.mk hby
  have HAc := Aside0.mk hac
  have HLe := Aside0.mk hcl
  have HAb := Aside0.mk hab
  clear ha hz h1 h2 hl hf hby hac hcl hab
  go_enter Try.func7, Try.ntmps7
  go_wp2_with (first
    | (go_at_call 27; (with_reducible refine (new_ok HA.out HZ.out).mono ?_); rintro e w1 ⟨g, rfl, ⟨mf, ms, mn, hd⟩, hb⟩; have B1 := Aside0.mk hb; have D1 := Aside0.mk hd; clear hb hd)
    | (go_at_call 25; (with_reducible refine (make_ok D1.out B1.out.size HS.out HR.out HL.out HF.out).mono ?_); rintro e w2 ⟨rfl, hd, hb⟩; have B2 := Aside0.mk (B1.out.trans hb); have D2 := Aside0.mk hd; clear hb hd)
    | (go_at_call 10; (with_reducible refine (stookref21_Head.calls k number b 0 w2 HT.out).mono ?_); rintro e w3 ⟨v, rfl, ho, hb⟩; obtain ⟨Ab, cb, eb⟩ := Kd.R_slice ho; subst eb; have B3 := Aside0.mk (below_step B2.out hb); have O3 := Aside0.mk ho; have O3d := Aside0.mk (At.mk (D2.out.below hb) (Kd.R_lower ho B2.out.size) B3.out); clear ho hb))
  go_loopw [9, 11] (fun v9 v11 wr => ∃ (i : Int) (F : List Int) (m : Nat), v11 = .int .i64 i ∧ Aside0 (0 ≤ i ∧ i ≤ 40 ∧ (m : Int) ≤ i + 1) ∧ Aside0 (At w wr g room F m v9) ∧ Aside0 ((F.length : Int) ≤ room ∧ Leb.Bytes F)) (fun v9 v11 _ => (40 - intOf v11).toNat)
  case atStart => exact ⟨0, b, 1, rfl, ⟨by omega⟩, ⟨O3d.out⟩, ⟨HF.out, HBy.out⟩⟩
  case round =>
    obtain ⟨i, F, m, rfl, hI, HAt, hFr⟩ := hrel
    by_cases hi : i < (l.length : Int)
    · by_cases h40 : i < 40
      · have hi0 : 0 ≤ i := hI.out.1
        obtain ⟨Af, cf, ev⟩ := Kd.R_slice HAt.out.own
        subst ev
        obtain ⟨ad, Ad, cd, eA, ca0, ca1, ca2, ca3, hle, hrd⟩ := act_at HAc.out i hi0 hi (0, 0, false, [])
        have hmem : Leb.Bytes (l.getD i.toNat (0, 0, false, [])).2.2.2 := by
          have hlt : i.toNat < l.length := by omega
          rw [List.getD_eq_getElem?_getD, List.getElem?_eq_getElem hlt]
          exact HAb.out _ (List.getElem_mem hlt)
        generalize l.getD i.toNat (0, 0, false, []) = x at ca0 ca1 ca2 ca3 hle hrd hmem
        obtain ⟨do_, n, any, D⟩ := x
        simp only at ca0 ca1 ca2 ca3 hle hrd hmem
        subst eA
        have X0 := Aside0.mk ca0
        have X1 := Aside0.mk ca1
        have X2 := Aside0.mk ca2
        have X3 := Aside0.mk ca3
        have XL := Aside0.mk hle
        have XR := Aside0.mk hrd
        have XB := Aside0.mk hmem
        clear ca0 ca1 ca2 ca3 hle hrd hmem
        have t0 : decide (i < (l.length : Int)) = true := decide_eq_true hi
        have t1 : decide (i < 40) = true := decide_eq_true h40
        have t2 : wrap64 (room - (F.length : Int)) = room - (F.length : Int) := room_sub HP.out HR.out hFr.out.1
        go_wp2
        refine start_ (n := 16) (S := fun w' => w'.cell? (ad.add (i.toNat * 4)) = some (.int .i64 do_) ∧ w'.cell? ⟨(ad.add (i.toNat * 4)).block, (ad.add (i.toNat * 4)).off + 1, none⟩ = some (.int .i64 n) ∧ w'.cell? ⟨(ad.add (i.toNat * 4)).block, (ad.add (i.toNat * 4)).off + 2, none⟩ = some (.bool any) ∧ w'.cell? ⟨(ad.add (i.toNat * 4)).block, (ad.add (i.toNat * 4)).off + 3, none⟩ = some (.slice Ad D.length cd)) (ds := []) #[false, false, false, false, false, false, false, false, false, false, false, false, false, false, false, false] (by kernel_rfl) rfl rfl ⟨cell_below X0.out (below_drew1 HAt.out.bel), cell_below X1.out (below_drew1 HAt.out.bel), cell_below X2.out (below_drew1 HAt.out.bel), cell_below X3.out (below_drew1 HAt.out.bel)⟩ (fun hHeld => ?_)
        have H4 := Aside0.mk (HAt.out.below (below_drew1 (Below.refl _ _)))
        generalize hwq : World.drew _ = w4 at H4 hHeld ⊢
        refine pure_ (i := 0) (N := some 66) (v := ?_) (a' := ?_) #[true, false, false, false, false, false, false, false, false, false, false, false, false, false, false, false] rfl rfl (by kernel_rfl) (fun _ _ _ h => h) (Or.inl ⟨by rfl, ?_⟩) ?_ ?_
        rotate_left
        · intro w'
          go_simp
          with_reducible rfl
        rotate_left
        · simp only [Act.put, List.setIfInBounds_toArray, List.set_cons_zero, List.set_cons_succ, i64_w, i32_w]
          rfl
        refine pure_ (i := 1) (N := some 67) (v := ?_) (a' := ?_) #[true, true, false, false, false, false, false, false, false, false, false, false, false, false, false, false] rfl rfl (by kernel_rfl) (fun _ _ _ h => h) (Or.inl ⟨by rfl, ?_⟩) ?_ ?_
        rotate_left
        · intro w'
          go_simp
          with_reducible rfl
        rotate_left
        · simp only [Act.put, List.setIfInBounds_toArray, List.set_cons_zero, List.set_cons_succ, i64_w, i32_w]
          rfl
        refine pure_ (i := 2) (N := some 68) (v := ?_) (a' := ?_) #[true, true, true, false, false, false, false, false, false, false, false, false, false, false, false, false] rfl rfl (by kernel_rfl) (fun _ _ _ h => h) (Or.inl ⟨by rfl, ?_⟩) ?_ ?_
        rotate_left
        · intro w'
          go_simp
          with_reducible rfl
        rotate_left
        · simp only [Act.put, List.setIfInBounds_toArray, List.set_cons_zero, List.set_cons_succ, i64_w, i32_w]
          rfl
        refine pure_ (i := 3) (N := some 69) (v := ?_) (a' := ?_) #[true, true, true, true, false, false, false, false, false, false, false, false, false, false, false, false] rfl rfl (by kernel_rfl) (fun _ _ _ h => h) (Or.inl ⟨by rfl, ?_⟩) ?_ ?_
        rotate_left
        · intro w'
          go_simp
          with_reducible rfl
        rotate_left
        · simp only [Act.put, List.setIfInBounds_toArray, List.set_cons_zero, List.set_cons_succ, i64_w, i32_w]
          rfl
        refine pure_ (i := 4) (N := some 70) (v := ?_) (a' := ?_) #[true, true, true, true, true, false, false, false, false, false, false, false, false, false, false, false] rfl rfl (by kernel_rfl) (fun _ _ _ h => h) (Or.inl ⟨by rfl, ?_⟩) ?_ ?_
        rotate_left
        · intro w'
          go_simp
          with_reducible rfl
        rotate_left
        · simp only [Act.put, List.setIfInBounds_toArray, List.set_cons_zero, List.set_cons_succ, i64_w, i32_w]
          rfl
        refine pure_ (i := 6) (N := some 72) (v := ?_) (a' := ?_) #[true, true, true, true, true, false, true, false, false, false, false, false, false, false, false, false] rfl rfl (by kernel_rfl) (fun _ _ _ h => h) (Or.inl ⟨by rfl, ?_⟩) ?_ ?_
        rotate_left
        · intro w'
          go_simp
          with_reducible rfl
        rotate_left
        · simp only [Act.put, List.setIfInBounds_toArray, List.set_cons_zero, List.set_cons_succ, i64_w, i32_w]
          rfl
        refine pure_ (i := 7) (N := some 73) (v := ?_) (a' := ?_) #[true, true, true, true, true, false, true, true, false, false, false, false, false, false, false, false] rfl rfl (by kernel_rfl) (fun _ _ _ h => h) (Or.inl ⟨by rfl, ?_⟩) ?_ ?_
        rotate_left
        · intro w'
          go_simp
          with_reducible rfl
        rotate_left
        · simp only [Act.put, List.setIfInBounds_toArray, List.set_cons_zero, List.set_cons_succ, i64_w, i32_w]
          rfl
        refine take_ (i := 5) (N := some 71) (v := ?_) (a' := ?_) #[true, true, true, true, true, true, true, true, false, false, false, false, false, false, false, false] rfl rfl (by kernel_rfl) (fun _ _ _ h => h) (Or.inl ⟨by rfl, ?_⟩) hHeld ?_ ?_
        rotate_left
        · rintro w' ⟨s0, s1, s2, s3⟩
          go_simp
          with_reducible rfl
        rotate_left
        · simp only [Act.put, List.setIfInBounds_toArray, List.set_cons_zero, List.set_cons_succ, i64_w, i32_w]
          rfl
        refine one_ (i := 8) (N := some 74) #[true, true, true, true, true, true, true, true, true, false, false, false, false, false, false, false] rfl rfl (by kernel_rfl) (by decide) (fun K hK => ?_)
        refine goes_ Try.func29 (by kernel_rfl) rfl #[.pointer (some ⟨g, 0, none⟩)] (by rfl) rfl rfl (by simp only [List.map_toArray, List.map_cons, List.map_nil]; rfl) ?_
        with_reducible refine (disk_used H4.out.disk).mono ?_
        rintro e w5 ⟨rfl, hb⟩
        refine ⟨_, rfl, ?_⟩
        have H5 := Aside0.mk (H4.out.below hb)
        clear hb
        refine hK.out _ _ ⟨cell_below X0.out H5.out.bel, cell_below X1.out H5.out.bel, cell_below X2.out H5.out.bel, cell_below X3.out H5.out.bel⟩ (fun hHeld => ?_)
        clear hK K
        refine norm_ (a' := ?_) ?_ ?_
        rotate_left
        · show Act.put _ (some 74) _ = _
          simp only [Act.put, List.setIfInBounds_toArray, List.set_cons_zero, List.set_cons_succ, i64_w, i32_w]
          rfl
        refine pure_ (i := 9) (N := some 75) (v := ?_) (a' := ?_) #[true, true, true, true, true, true, true, true, true, true, false, false, false, false, false, false] rfl rfl (by kernel_rfl) (fun _ _ _ h => h) (Or.inl ⟨by rfl, ?_⟩) ?_ ?_
        rotate_left
        · intro w'
          go_simp
          with_reducible rfl
        rotate_left
        · simp only [Act.put, List.setIfInBounds_toArray, List.set_cons_zero, List.set_cons_succ, i64_w, i32_w]
          rfl
        refine one_ (i := 10) (N := some 76) #[true, true, true, true, true, true, true, true, true, true, true, false, false, false, false, false] rfl rfl (by kernel_rfl) (by decide) (fun K hK => ?_)
        refine goes_ Try.func28 (by kernel_rfl) rfl #[.pointer (some ⟨g, 0, none⟩), .slice Af F.length cf, .agg #[.int .i64 do_, .int .i64 n, .bool any, .slice Ad D.length cd], .int .i64 (wrap64 (room - (F.length : Int)))] (by rfl) rfl rfl (by simp only [List.map_toArray, List.map_cons, List.map_nil]; rfl) ?_
        with_reducible refine (step_free t2 H5.out XR.out XL.out XB.out hFr.out.2 HR.out hFr.out.1 (by have := hI.out; omega)).mono ?_
        rintro e w6 ⟨v6, F6, m6, rfl, h6, hl6, hb6, hm6⟩
        refine ⟨_, rfl, ?_⟩
        have H6 := Aside0.mk h6
        have I6 := Aside0.mk (And.intro hl6 (And.intro hb6 hm6))
        clear h6 hl6 hb6 hm6
        refine hK.out _ _ ⟨cell_below X0.out H6.out.bel, cell_below X1.out H6.out.bel, cell_below X2.out H6.out.bel, cell_below X3.out H6.out.bel⟩ (fun hHeld => ?_)
        clear hK K
        refine norm_ (a' := ?_) ?_ ?_
        rotate_left
        · show Act.put _ (some 76) _ = _
          simp only [Act.put, List.setIfInBounds_toArray, List.set_cons_zero, List.set_cons_succ, i64_w, i32_w]
          rfl
        refine pure_ (i := 11) (N := some 65) (v := ?_) (a' := ?_) #[true, true, true, true, true, true, true, true, true, true, true, true, false, false, false, false] rfl rfl (by kernel_rfl) (fun _ _ _ h => h) (Or.inl ⟨by rfl, ?_⟩) ?_ ?_
        rotate_left
        · intro w'
          go_simp
          with_reducible rfl
        rotate_left
        · simp only [Act.put, List.setIfInBounds_toArray, List.set_cons_zero, List.set_cons_succ, i64_w, i32_w]
          rfl
        refine pure_ (i := 12) (N := some 77) (v := ?_) (a' := ?_) #[true, true, true, true, true, true, true, true, true, true, true, true, true, false, false, false] rfl rfl (by kernel_rfl) (fun _ _ _ h => h) (Or.inl ⟨by rfl, ?_⟩) ?_ ?_
        rotate_left
        · intro w'
          go_simp
          with_reducible rfl
        rotate_left
        · simp only [Act.put, List.setIfInBounds_toArray, List.set_cons_zero, List.set_cons_succ, i64_w, i32_w]
          rfl
        refine pure_ (i := 13) (N := some 78) (v := ?_) (a' := ?_) #[true, true, true, true, true, true, true, true, true, true, true, true, true, true, false, false] rfl rfl (by kernel_rfl) (fun _ _ _ h => h) (Or.inl ⟨by rfl, ?_⟩) ?_ ?_
        rotate_left
        · intro w'
          go_simp
          with_reducible rfl
        rotate_left
        · simp only [Act.put, List.setIfInBounds_toArray, List.set_cons_zero, List.set_cons_succ, i64_w, i32_w]
          rfl
        refine pure_ (i := 14) (N := some 9) (v := ?_) (a' := ?_) #[true, true, true, true, true, true, true, true, true, true, true, true, true, true, true, false] rfl rfl (by kernel_rfl) (fun _ _ _ h => h) (Or.inl ⟨by rfl, ?_⟩) ?_ ?_
        rotate_left
        · intro w'
          go_simp
          with_reducible rfl
        rotate_left
        · simp only [Act.put, List.setIfInBounds_toArray, List.set_cons_zero, List.set_cons_succ, i64_w, i32_w]
          rfl
        refine pure_ (i := 15) (N := some 12) (v := ?_) (a' := ?_) #[true, true, true, true, true, true, true, true, true, true, true, true, true, true, true, true] rfl rfl (by kernel_rfl) (fun _ _ _ h => h) (Or.inl ⟨by rfl, ?_⟩) ?_ ?_
        rotate_left
        · intro w'
          go_simp
          with_reducible rfl
        rotate_left
        · simp only [Act.put, List.setIfInBounds_toArray, List.set_cons_zero, List.set_cons_succ, i64_w, i32_w]
          rfl
        refine done_ (by kernel_rfl) ?_
        go_wp2_with (first
          | (go_at_call 30; (with_reducible refine (fread_on H6.out.disk H6.out.bel.size (by have := I6.out.1; have := HR.out; omega) (by have := I6.out.1; have := HR.out; omega)).mono ?_); rintro e w7 ⟨v7, rfl, ho, hb⟩; obtain ⟨A7, c7, e7⟩ := Kd.R_slice ho; subst e7; obtain ⟨A6, c6, e6⟩ := Kd.R_slice H6.out.own; subst e6; have O7 := Aside0.mk ho; have H7 := Aside0.mk (H6.out.below hb); clear ho hb)
          | ((try (refine gate_guard (by rfl) ?_; dsimp only)); go_at_call 13; (with_reducible refine (stookref00_Same.calls 5000000 A7 c7 F6 A6 c6 F6 true w7 (Kd.R_reads' O7.out).2.2 (Kd.R_reads' O7.out).2.1 (Kd.R_reads' H7.out.own).2.2 (Kd.R_reads' H7.out.own).2.1 (Pure.same_self _ _ (by have := I6.out.1; have := HR.out; omega) (by have := I6.out.1; have := HR.out; omega))).mono ?_); rintro e w8 ⟨rfl, hd⟩; have H8 := Aside0.mk (H7.out.below hd.below); clear hd))
        exact ⟨⟨i + 1, F6, m6, rfl, ⟨by have := hI.out; have := I6.out.2.2; omega⟩, H8, ⟨I6.out.1, I6.out.2.1⟩⟩, by simp only [intOf]; omega⟩
      · have t0 : decide (i < (l.length : Int)) = true := decide_eq_true hi
        have t1 : decide (i < 40) = false := decide_eq_false h40
        go_wp2_with (first
          | (go_at_call 24; (with_reducible refine (sread_none HAt.out.disk (by decide)).mono ?_); rintro e wr' ⟨rfl, hbr⟩; have HBr := Aside0.mk (below_step HAt.out.bel hbr); clear hbr)
          | ((try (refine gate_guard (by rfl) ?_; dsimp only)); go_at_call 15; (with_reducible refine (lives_calls k _ HLV.out).mono ?_); rintro e wl ⟨rfl, hbl⟩))
        go_ret
        exact ⟨rfl, below_step HBr.out hbl⟩
    · have t0 : decide (i < (l.length : Int)) = false := decide_eq_false hi
      go_wp2_with (first
        | (go_at_call 24; (with_reducible refine (sread_none HAt.out.disk (by decide)).mono ?_); rintro e wr' ⟨rfl, hbr⟩; have HBr := Aside0.mk (below_step HAt.out.bel hbr); clear hbr)
        | ((try (refine gate_guard (by rfl) ?_; dsimp only)); go_at_call 15; (with_reducible refine (lives_calls k _ HLV.out).mono ?_); rintro e wl ⟨rfl, hbl⟩))
      go_ret
      exact ⟨rfl, below_step HBr.out hbl⟩
end Go.Proofs.Ytjefgdggjchhbaa.PAll
