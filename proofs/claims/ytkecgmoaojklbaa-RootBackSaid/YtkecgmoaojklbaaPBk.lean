/- RootBack: what its walk asks, out of the plain law. -/
import Derived.Test.YtkecgmoaojklbaaRootBackWalk
set_option linter.unusedVariables false
set_option linter.unusedSimpArgs false
namespace Go.Proofs.Ytkecgmoaojklbaa.Pure
open Go Go.RowKit Go.Proofs.Ytkecgmoaojklbaa.PAll Go.Proofs.Ytkecgmoaojklbaa.Crc Go.Proofs.Ytkecgmoaojklbaa.Leb Go.Proofs.YtkecgmoaojklbaaVW.PrintWords Go.Proofs.YtkecgmoaojklbaaVW.PrintLast
set_option maxRecDepth 100000
theorem place_f {a : Int} (h : 0 ≤ a) (b c d e f g : Int) : root_Place.f a b c d e f g = some (a % 2) := by
  unfold root_Place.f
  rw [tmod_two h]
theorem flip_v {a b c d e f g : Int} {p : List Int} (h : Laid a b c d e f g p) {i : Nat} (hi : i < 512) {v : Int} (hv : 0 < v ∧ v < 256) : Bytes (flip p i v) ∧ flip (flip p i v) i v = p :=
  ⟨bytes_flip h.bytes (by rw [h.len]; exact hi) (by omega), flip_twice h.bytes (by rw [h.len]; exact hi) (by omega)⟩
theorem rootback (q0 q1 q2 q3 q4 q5 q6 s0 s1 s2 s3 s4 s5 s6 at_ by_ : Int) (w : World) (hq0 : 0 ≤ q0 ∧ q0 < 18446744073709551616) (hq3 : 0 ≤ q3) (hs3 : 0 ≤ s3) (ha : -9223372036854775808 ≤ at_) (hb : 0 ≤ by_ ∧ by_ < 256) :
    Calls Try.prog 6 #[.agg #[.int .u64 q0, .int .i64 q1, .int .i64 q2, .int .u64 q3, .int .u64 q4, .int .i64 q5, .int .i64 q6], .agg #[.int .u64 s0, .int .i64 s1, .int .i64 s2, .int .u64 s3, .int .u64 s4, .int .i64 s5, .int .i64 s6], .int .i64 at_, .int .u8 by_] w fun e w' => e = .returned (.bool true) ∧ Below w.heap.size w w' := by
  obtain ⟨k, hk⟩ : ∃ k, k = 3000 := ⟨_, rfl⟩
  have hLv := rootlives_f k (by omega)
  have hP := rput_f k (by omega) q0 q1 q2 q3 q4 q5 q6 hq3
  by_cases hpe : (rput q0 q1 q2 q3 q4 q5 q6).2 = 0
  · have L1 := rput_ok hq3 hpe
    obtain ⟨p, hp⟩ : ∃ p, p = (rput q0 q1 q2 q3 q4 q5 q6).1 := ⟨_, rfl⟩
    rw [← hp] at L1
    rw [L1.ok] at hP
    have l1 := L1.lt.1
    have l2 := L1.lt.2
    have hpr := place_f hq0.1 q1 q2 q3 q4 q5 q6
    have hG := rget_f k (by omega) (q0 % 2) p L1.bytes
    rw [L1.get] at hG
    have hQ := rput_f k (by omega) (q0 + 1) s1 s2 s3 s4 s5 s6 hs3
    by_cases hqe : (rput (q0 + 1) s1 s2 s3 s4 s5 s6).2 = 0
    · have L2 := rput_ok hs3 hqe
      obtain ⟨q, hq⟩ : ∃ q, q = (rput (q0 + 1) s1 s2 s3 s4 s5 s6).1 := ⟨_, rfl⟩
      rw [← hq] at L2
      rw [L2.ok] at hQ
      have hps := place_f (a := q0 + 1) (by omega) s1 s2 s3 s4 s5 s6
      have hpq : (q0 + 1) % 2 ≠ q0 % 2 := by omega
      have hv := or_one hb
      have road : ∀ i : Nat, i < 512 → (0 ≤ at_ → at_ % 512 = (i : Int)) → (at_ < 0 → -(at_ + 1).tmod 512 = (i : Int)) → Calls Try.prog 6 #[.agg #[.int .u64 q0, .int .i64 q1, .int .i64 q2, .int .u64 q3, .int .u64 q4, .int .i64 q5, .int .i64 q6], .agg #[.int .u64 s0, .int .i64 s1, .int .i64 s2, .int .u64 s3, .int .u64 s4, .int .i64 s5, .int .i64 s6], .int .i64 at_, .int .u8 by_] w fun e w' => e = .returned (.bool true) ∧ Below w.heap.size w w' := by
        intro i hi hm1 hm2
        have F1 := flip_v L1 hi hv
        have F2 := flip_v L2 hi hv
        have P := picks L1 L2 hi hv
        by_cases hev : q0 % 2 = 0
        · obtain ⟨k1, k2, k3⟩ := P.1 hev
          have K1 := rpick_f k (by omega) p q L1.bytes L2.bytes
          have K2 := rpick_f k (by omega) p _ L1.bytes F2.1
          have K3 := rpick_f k (by omega) _ q F1.1 L2.bytes
          rw [k1] at K1
          rw [k2] at K2
          rw [k3] at K3
          have hpar : (q0 % 2 == 1) = false := beq_eq_false_iff_ne.mpr (by omega)
          by_cases h0 : 0 ≤ at_
          · exact rootback_ep k q0 q1 q2 q3 q4 q5 q6 s0 s1 s2 s3 s4 s5 s6 at_ by_ (q0 % 2) ((q0 + 1) % 2) i p q w hP L1.len hpr hG l1 l2 hLv hQ L2.len hps hpq hpar hi h0 (hm1 h0) K1 K2 K3 F2.2
          · exact rootback_en k q0 q1 q2 q3 q4 q5 q6 s0 s1 s2 s3 s4 s5 s6 at_ by_ (q0 % 2) ((q0 + 1) % 2) i p q w hP L1.len hpr hG l1 l2 hLv hQ L2.len hps hpq hpar hi (by omega) ha (hm2 (by omega)) K1 K2 K3 F2.2
        · obtain ⟨k1, k2, k3⟩ := P.2 (by omega)
          have K1 := rpick_f k (by omega) q p L2.bytes L1.bytes
          have K2 := rpick_f k (by omega) _ p F2.1 L1.bytes
          have K3 := rpick_f k (by omega) q _ L2.bytes F1.1
          rw [k1] at K1
          rw [k2] at K2
          rw [k3] at K3
          have hpar : (q0 % 2 == 1) = true := beq_iff_eq.mpr (by omega)
          by_cases h0 : 0 ≤ at_
          · exact rootback_op k q0 q1 q2 q3 q4 q5 q6 s0 s1 s2 s3 s4 s5 s6 at_ by_ (q0 % 2) ((q0 + 1) % 2) i p q w hP L1.len hpr hG l1 l2 hLv hQ L2.len hps hpq hpar hi h0 (hm1 h0) K1 K2 K3 F2.2
          · exact rootback_on k q0 q1 q2 q3 q4 q5 q6 s0 s1 s2 s3 s4 s5 s6 at_ by_ (q0 % 2) ((q0 + 1) % 2) i p q w hP L1.len hpr hG l1 l2 hLv hQ L2.len hps hpq hpar hi (by omega) ha (hm2 (by omega)) K1 K2 K3 F2.2
      by_cases h0 : 0 ≤ at_
      · exact road (at_ % 512).toNat (by omega) (fun _ => by omega) (fun h => by omega)
      · have hneg : -(at_ + 1).tmod 512 = (-(at_ + 1)) % 512 := by rw [← Int.neg_tmod, Int.tmod_eq_emod_of_nonneg (by omega)]
        exact road ((-(at_ + 1)) % 512).toNat (by omega) (fun h => by omega) (fun _ => by rw [hneg]; omega)
    · exact rootback_b k q0 q1 q2 q3 q4 q5 q6 s0 s1 s2 s3 s4 s5 s6 at_ by_ (q0 % 2) p _ _ w hP L1.len hpr hG l1 l2 hLv hQ hqe
  · exact rootback_a k q0 q1 q2 q3 q4 q5 q6 s0 s1 s2 s3 s4 s5 s6 at_ by_ _ _ w hP hpe hLv
end Go.Proofs.Ytkecgmoaojklbaa.Pure
