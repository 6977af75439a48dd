/- RootBack: what stands in memory while a root and the next one are spoilt. -/
import Derived.Test.YtkecgmoaojklbaaRootWalk
import Derived.Test.YtkecgmoaojklbaaPAllx11
set_option linter.unusedVariables false
set_option linter.unusedSimpArgs false
namespace Go.Proofs.Ytkecgmoaojklbaa.PAll
open Go.RowKit Go.Proofs.YtkecgmoaojklbaaVW.PrintWords Go.Proofs.YtkecgmoaojklbaaVW.PrintLast Go.Proofs.YtkecgmoaojklbaaVW.PrintMore
/-- A root's values. -/
abbrev Rb (w : World) (g : Nat) (q0 q1 q2 q3 q4 q5 q6 : Int) : Prop := Rootb w g (.int .u64 q0) (.int .i64 q1) (.int .i64 q2) (.int .u64 q3) (.int .u64 q4) (.int .i64 q5) (.int .i64 q6)
/-- A row of bytes of the call's own. -/
abbrev Rw (w0 w : World) (g c : Nat) (p : List Int) : Prop := Kd.R (Kd.int .u8) 5 w w0.heap.size (fun k => k = g) (.slice (some ⟨g, 0, none⟩) p.length c) p
theorem Rw.ne {w0 w : World} {g c : Nat} {p : List Int} (h : Rw w0 w g c p) {b : Nat} {x0 x1 x2 x3 x4 x5 x6 : Value} (hb : Rootb w b x0 x1 x2 x3 x4 x5 x6) : b ≠ g := by
  have h1 := Kd.R_ne h hb (by decide)
  intro e
  apply h1
  rw [e]
  rfl
structure RB (w0 w : World) (gx gp gq cp cq : Nat) (q0 q1 q2 q3 q4 q5 q6 s0 s1 s2 s3 s4 s5 s6 x0 x1 x2 x3 x4 x5 x6 : Int) (p q : List Int) : Prop where
  br : Rb w w0.heap.size q0 q1 q2 q3 q4 q5 q6
  bs : Rb w (w0.heap.size + 1) s0 s1 s2 s3 s4 s5 s6
  bx : Rb w gx x0 x1 x2 x3 x4 x5 x6
  rp : Rw w0 w gp cp p
  rq : Rw w0 w gq cq q
  npq : gp ≠ gq
  nrx : w0.heap.size ≠ gx
  nsx : w0.heap.size + 1 ≠ gx
  lx : w0.heap.size ≤ gx
  lp : w0.heap.size ≤ gp
  lq : w0.heap.size ≤ gq
  be : Below w0.heap.size w0 w
section
variable {w0 w w' : World} {gx gp gq cp cq : Nat} {q0 q1 q2 q3 q4 q5 q6 s0 s1 s2 s3 s4 s5 s6 x0 x1 x2 x3 x4 x5 x6 : Int} {p q : List Int}
theorem RB.below (h : RB w0 w gx gp gq cp cq q0 q1 q2 q3 q4 q5 q6 s0 s1 s2 s3 s4 s5 s6 x0 x1 x2 x3 x4 x5 x6 p q) (hb : Below w.heap.size w w') : RB w0 w' gx gp gq cp cq q0 q1 q2 q3 q4 q5 q6 s0 s1 s2 s3 s4 s5 s6 x0 x1 x2 x3 x4 x5 x6 p q :=
  ⟨Rootb.below h.br hb, Rootb.below h.bs hb, Rootb.below h.bx hb, Kd.R_below h.rp hb, Kd.R_below h.rq hb, h.npq, h.nrx, h.nsx, h.lx, h.lp, h.lq, below_step h.be hb⟩
theorem RB.drew (h : RB w0 w gx gp gq cp cq q0 q1 q2 q3 q4 q5 q6 s0 s1 s2 s3 s4 s5 s6 x0 x1 x2 x3 x4 x5 x6 p q) : RB w0 w.drew gx gp gq cp cq q0 q1 q2 q3 q4 q5 q6 s0 s1 s2 s3 s4 s5 s6 x0 x1 x2 x3 x4 x5 x6 p q := h.below (below_drew1 (Below.refl _ _))
theorem RB.putx (h : RB w0 w gx gp gq cp cq q0 q1 q2 q3 q4 q5 q6 s0 s1 s2 s3 s4 s5 s6 x0 x1 x2 x3 x4 x5 x6 p q) (y0 y1 y2 y3 y4 y5 y6 : Int) :
    RB w0 (((((((w.setCell ⟨gx, 0, none⟩ (.int .u64 y0)).setCell ⟨gx, 1, none⟩ (.int .i64 y1)).setCell ⟨gx, 2, none⟩ (.int .i64 y2)).setCell ⟨gx, 3, none⟩ (.int .u64 y3)).setCell ⟨gx, 4, none⟩ (.int .u64 y4)).setCell ⟨gx, 5, none⟩ (.int .i64 y5)).setCell ⟨gx, 6, none⟩ (.int .i64 y6)) gx gp gq cp cq q0 q1 q2 q3 q4 q5 q6 s0 s1 s2 s3 s4 s5 s6 y0 y1 y2 y3 y4 y5 y6 p q := by
  have hp := h.rp.ne h.bx
  have hq := h.rq.ne h.bx
  have far : ∀ (u : World) (l : List Int) (g c : Nat), gx ≠ g → Rw w0 u g c l → ∀ (i : Nat) (v : Value), Rw w0 (u.setCell ⟨gx, i, none⟩ v) g c l := fun u l g c hg hr i v => Kd.R_far hr (p := ⟨gx, i, none⟩) (fun k hk => by rw [hk]; exact Ne.symm hg) v
  refine ⟨?_, ?_, Rootb.put h.bx _ _ _ _ _ _ _, ?_, ?_, h.npq, h.nrx, h.nsx, h.lx, h.lp, h.lq, below_put7 h.be h.lx _ _ _ _ _ _ _⟩
  · exact ((((((h.br.far h.nrx _).far h.nrx _).far h.nrx _).far h.nrx _).far h.nrx _).far h.nrx _).far h.nrx _
  · exact ((((((h.bs.far h.nsx _).far h.nsx _).far h.nsx _).far h.nsx _).far h.nsx _).far h.nsx _).far h.nsx _
  · exact far _ _ _ _ hp (far _ _ _ _ hp (far _ _ _ _ hp (far _ _ _ _ hp (far _ _ _ _ hp (far _ _ _ _ hp (far _ _ _ _ hp h.rp _ _) _ _) _ _) _ _) _ _) _ _) _ _
  · exact far _ _ _ _ hq (far _ _ _ _ hq (far _ _ _ _ hq (far _ _ _ _ hq (far _ _ _ _ hq (far _ _ _ _ hq (far _ _ _ _ hq h.rq _ _) _ _) _ _) _ _) _ _) _ _) _ _
theorem RB.putq (h : RB w0 w gx gp gq cp cq q0 q1 q2 q3 q4 q5 q6 s0 s1 s2 s3 s4 s5 s6 x0 x1 x2 x3 x4 x5 x6 p q) (i : Nat) (v : Int) : RB w0 (w.setCell ⟨gq, i, none⟩ (.int .u8 v)) gx gp gq cp cq q0 q1 q2 q3 q4 q5 q6 s0 s1 s2 s3 s4 s5 s6 x0 x1 x2 x3 x4 x5 x6 p (q.set i v) := by
  have hq := Kd.R_putn h.rq (i : Int) v
  rw [Int.toNat_natCast] at hq
  refine ⟨h.br.far (h.rq.ne h.br) _, h.bs.far (h.rq.ne h.bs) _, h.bx.far (h.rq.ne h.bx) _, Kd.R_far h.rp (p := ⟨gq, i, none⟩) (fun k hk => by rw [hk]; exact h.npq) _, ?_, h.npq, h.nrx, h.nsx, h.lx, h.lp, h.lq, h.be.setCell (p := ⟨gq, i, none⟩) h.lq _⟩
  show Kd.R _ _ _ _ _ (.slice _ (q.set i v).length _) _
  rw [List.length_set]
  exact hq
theorem RB.putp (h : RB w0 w gx gp gq cp cq q0 q1 q2 q3 q4 q5 q6 s0 s1 s2 s3 s4 s5 s6 x0 x1 x2 x3 x4 x5 x6 p q) (i : Nat) (v : Int) : RB w0 (w.setCell ⟨gp, i, none⟩ (.int .u8 v)) gx gp gq cp cq q0 q1 q2 q3 q4 q5 q6 s0 s1 s2 s3 s4 s5 s6 x0 x1 x2 x3 x4 x5 x6 (p.set i v) q := by
  have hp := Kd.R_putn h.rp (i : Int) v
  rw [Int.toNat_natCast] at hp
  refine ⟨h.br.far (h.rp.ne h.br) _, h.bs.far (h.rp.ne h.bs) _, h.bx.far (h.rp.ne h.bx) _, ?_, Kd.R_far h.rq (p := ⟨gp, i, none⟩) (fun k hk => by rw [hk]; exact Ne.symm h.npq) _, h.npq, h.nrx, h.nsx, h.lx, h.lp, h.lq, h.be.setCell (p := ⟨gp, i, none⟩) h.lp _⟩
  show Kd.R _ _ _ _ _ (.slice _ (p.set i v).length _) _
  rw [List.length_set]
  exact hp
theorem Rw.cell {g c : Nat} {l : List Int} (h : Rw w0 w g c l) {i : Nat} (hi : i < l.length) : w.cell? ⟨g, i, none⟩ = some (.int .u8 (rd l (i : Int))) ∧ w.frozen? ⟨g, i, none⟩ = false := by
  have := Kd.R_celln 0 h (i : Int) (by omega) (by omega)
  rw [Int.toNat_natCast] at this
  exact this
theorem Rw.of {b : Nat} {ok : Nat → Prop} {g c : Nat} {l : List Int} (h : Kd.R (Kd.int .u8) 5 w b ok (.slice (some ⟨g, 0, none⟩) l.length c) l) (hb : w0.heap.size ≤ b) : Rw w0 w g c l :=
  ⟨fun k hk => by cases hk; rfl, (Kd.R_lower h hb).2⟩
end
theorem rb_start {w w3 w4 : World} {gp gq cp cq : Nat} {q0 q1 q2 q3 q4 q5 q6 s0 s1 s2 s3 s4 s5 s6 n : Int} {p q : List Int} (R3 : Rb w3 w.heap.size q0 q1 q2 q3 q4 q5 q6) (S3 : Rb w3 (w.heap.size + 1) s0 s1 s2 s3 s4 s5 s6) (P3 : Rw w w3 gp cp p) (lp : w.heap.size ≤ gp) (H3 : Below w.heap.size w w3)
    (hb : Below ((w3.alloc (.cells #[.int .u64 q0, .int .i64 q1, .int .i64 q2, .int .u64 q3, .int .u64 q4, .int .i64 q5, .int .i64 q6] 34)).setCell ⟨w.heap.size + 1, 0, none⟩ (.int .u64 n)).heap.size ((w3.alloc (.cells #[.int .u64 q0, .int .i64 q1, .int .i64 q2, .int .u64 q3, .int .u64 q4, .int .i64 q5, .int .i64 q6] 34)).setCell ⟨w.heap.size + 1, 0, none⟩ (.int .u64 n)) w4)
    (hq : Kd.R (Kd.int .u8) 5 w4 ((w3.alloc (.cells #[.int .u64 q0, .int .i64 q1, .int .i64 q2, .int .u64 q3, .int .u64 q4, .int .i64 q5, .int .i64 q6] 34)).setCell ⟨w.heap.size + 1, 0, none⟩ (.int .u64 n)).heap.size (fun _ => True) (.slice (some ⟨gq, 0, none⟩) q.length cq) q) :
    RB w w4 w3.heap.size gp gq cp cq q0 q1 q2 q3 q4 q5 q6 n s1 s2 s3 s4 s5 s6 q0 q1 q2 q3 q4 q5 q6 p q := by
  have hz : ((w3.alloc (.cells #[.int .u64 q0, .int .i64 q1, .int .i64 q2, .int .u64 q3, .int .u64 q4, .int .i64 q5, .int .i64 q6] 34)).setCell ⟨w.heap.size + 1, 0, none⟩ (.int .u64 n)).heap.size = w3.heap.size + 1 := by simp
  have lR := R3.lt
  have lS := S3.lt
  have lP : gp < w3.heap.size := Kd.R_lt P3 gp rfl
  have bq := Kd.R_base hq gq rfl
  rw [hz] at bq
  have hA : Rb (w3.alloc (.cells #[.int .u64 q0, .int .i64 q1, .int .i64 q2, .int .u64 q3, .int .u64 q4, .int .i64 q5, .int .i64 q6] 34)) (w.heap.size + 1) s0 s1 s2 s3 s4 s5 s6 := blk_alloc S3 _
  have hB : Below w.heap.size w ((w3.alloc (.cells #[.int .u64 q0, .int .i64 q1, .int .i64 q2, .int .u64 q3, .int .u64 q4, .int .i64 q5, .int .i64 q6] 34)).setCell ⟨w.heap.size + 1, 0, none⟩ (.int .u64 n)) := (below_alloc H3 _).setCell (p := ⟨w.heap.size + 1, 0, none⟩) (Nat.le_succ _) _
  refine ⟨Rootb.below (Rootb.far (blk_alloc R3 _) (by dsimp only; omega) _) hb, Rootb.below (blk_put (cs := #[.int .u64 s0, .int .i64 s1, .int .i64 s2, .int .u64 s3, .int .u64 s4, .int .i64 s5, .int .i64 s6]) hA 0 _ rfl) hb,
    Rootb.below (Rootb.far (rootb_new w3 _ _ _ _ _ _ _) (by dsimp only; omega) _) hb, Kd.R_below (Kd.R_set (Kd.R_alloc P3 _) hA (by decide) 0 _) hb, Rw.of hq (by rw [hz]; omega), by omega, by omega, by omega, by omega, lp, by omega, below_step hB hb⟩
end Go.Proofs.Ytkecgmoaojklbaa.PAll
