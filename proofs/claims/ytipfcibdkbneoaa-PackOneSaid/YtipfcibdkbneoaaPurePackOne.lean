/- What is read is what is put of it: the printed statement of PackOne. No condition. -/
import Derived.Test.YtipfcibdkbneoaaPPack
import Derived.Test.YtipfcibdkbneoaaPAllx34
namespace Go.Proofs.Ytipfcibdkbneoaa.Pure
open Go Go.RowKit Go.Proofs.Ytipfcibdkbneoaa.PAll Go.Proofs.Ytipfcibdkbneoaa.Crc Go.Proofs.Ytipfcibdkbneoaa.Leb Go.Proofs.Ytipfcibdkbneoaa.Pack Go.Proofs.YtipfcibdkbneoaaVW.PrintWords Go.Proofs.YtipfcibdkbneoaaVW.PrintLast
theorem PackOne : stooklaw12_PackOne.Pure := by
  intro b a n u _ hl hw _ hn hu
  have hb := Bytes.of_wf hw
  have h1 := i64_wf hn
  have h2 := u64_wf hu
  obtain ⟨v, rfl⟩ := Int.eq_ofNat_of_zero_le h2.1
  have hu2 := unfold_lt (u := v) (by omega)
  have hf : fold n < 18446744073709551616 := by
    unfold fold
    split <;> omega
  refine ⟨200002, ?_⟩
  unfold stooklaw12_PackOne.f
  have w := packworks_f 200001 (by omega)
  rw [fold_f h1.1 h1.2, bnd, unfold_f hf, bnd, if_pos (unfold_fold n), unfold_f (by omega), bnd, fold_f hu2.1 hu2.2, bnd, fold_unfold, bne_self_eq_false]
  simp only [stooklaw12_PackOne.j0, Bool.false_eq_true, if_false]
  rw [packget_f _ b a hb (by omega) (by omega), bnd]
  rcases row_inv b hb a with ⟨e, he, h⟩ | ⟨l, c, m, rfl, h, hp, hmc, hc1, hct⟩
  · rw [h, if_neg he, if_pos (by simp), if_pos rfl, w, bnd]
  · have hpl := put_len l
    rw [hp] at hpl
    simp only [] at hpl
    rw [h, if_pos rfl]
    simp only []
    rw [packput_f _ l (by omega), bnd, hp]
    simp only []
    rw [if_pos True.intro, if_pos (by omega), if_pos (by omega), if_pos (by omega), if_pos (by omega), if_pos (by omega), Int.toNat_natCast, Int.toNat_natCast, List.drop_take, show m + c.length - m = c.length by omega, ← hct, same_self _ _ (by omega) (by omega), bnd, if_pos rfl, w, bnd]
end Go.Proofs.Ytipfcibdkbneoaa.Pure
