/- A disk, asked: ready, get, Size, Used, Read, and shard.none, walked by hand. Conditions: the disk lies in memory as told. -/
import Derived.Test.YtjefgdggjchhbaaFsDisk
set_option linter.unusedVariables false
set_option linter.unusedSimpArgs false
namespace Go.Proofs.Ytjefgdggjchhbaa.PAll
open Go.RowKit Go.Proofs.YtjefgdggjchhbaaVW.PrintWords Go.Proofs.YtjefgdggjchhbaaVW.PrintLast Go.Proofs.YtjefgdggjchhbaaVW.PrintMore
attribute [local go_sem] max2_int min2_int max_two min_two
set_option maxHeartbeats 8000000
set_option maxRecDepth 100000
theorem ready_on {w : World} {g : Nat} {room used : Int} {mf : Nat} {next : Int} {ms mn : Nat} {rowf : Value} {acts : Int} (H : Fsb w g room used mf next ms mn rowf acts) :
    Calls Try.prog 50 #[.pointer (some ⟨g, 0, none⟩)] w fun e w' => e = .returned (.int .i64 0) ∧ Below w.heap.size w w' := by
  have c0 := H.c0
  have c10 := H.c10
  clear H
  have HB := Aside0.mk (Below.refl w.heap.size w)
  go_enter Try.func50, Try.ntmps50
  go_wp2
  go_ret
  exact ⟨rfl, HB.out⟩
theorem get_on {w : World} {g : Nat} {room used : Int} {mf : Nat} {next : Int} {ms mn : Nat} {rowf : Value} {acts : Int} {x : Nat} (H : Fsb w g room used mf next ms mn rowf acts) (Hn : w.heap[mn]? = some (.map seenOne 1)) (Hf : w.heap[mf]? = some (.map (fileOne x) 1)) :
    Calls Try.prog 51 #[.pointer (some ⟨g, 0, none⟩), .string nameS] w fun e w' => e = .returned (.tuple #[.pointer (some ⟨x, 0, none⟩), .int .i64 0]) ∧ Below w.heap.size w w' := by
  have HH := Aside0.mk H
  have HN := Aside0.mk Hn
  have HF := Aside0.mk Hf
  clear H Hn Hf
  go_enter Try.func51, Try.ntmps51
  go_wp2_with (first
    | (go_at_call 50; (with_reducible refine (ready_on HH.out).mono ?_); rintro e w2 ⟨rfl, hb⟩; have HB := Aside0.mk hb; have c3 := (HH.out.below hb).c3; have c6 := (HH.out.below hb).c6; have HN2 := Aside0.mk (blk_below HN.out hb); have HF2 := Aside0.mk (blk_below HF.out hb); clear hb)
    | (at_lookup; refine wp_look rfl _ _ 43 true rfl (.map (some mn)) (.string nameS) _ rfl rfl (seen_hit HN2.out) ?_)
    | (at_lookup; refine wp_look rfl _ _ 42 false rfl (.map (some mf)) (.int .i64 1) _ rfl rfl (file_hit HF2.out) ?_))
  go_ret2
  exact ⟨rfl, HB.out⟩
theorem get_no {w : World} {g : Nat} {room used : Int} {mf : Nat} {next : Int} {ms mn : Nat} {rowf : Value} {acts : Int} {s : ByteArray} (H : Fsb w g room used mf next ms mn rowf acts) (Hn : NoName w mn s) :
    Calls Try.prog 51 #[.pointer (some ⟨g, 0, none⟩), .string s] w fun e w' => e = .returned (.tuple #[.pointer none, .int .i64 7]) ∧ Below w.heap.size w w' := by
  have HH := Aside0.mk H
  have HN := Aside0.mk Hn
  clear H Hn
  go_enter Try.func51, Try.ntmps51
  go_wp2_with (first
    | (go_at_call 50; (with_reducible refine (ready_on HH.out).mono ?_); rintro e w2 ⟨rfl, hb⟩; have HB := Aside0.mk hb; have c6 := (HH.out.below hb).c6; have HN2 := Aside0.mk (HN.out.below hb); clear hb)
    | (at_lookup; refine wp_look rfl _ _ 43 true rfl (.map (some mn)) (.string s) _ rfl rfl HN2.out.look ?_))
  go_ret2
  exact ⟨rfl, HB.out⟩
theorem size_on {w : World} {g : Nat} {room used : Int} {mf : Nat} {next : Int} {ms mn : Nat} {rowf : Value} {acts : Int} {x n cap : Nat} {sure row : Value} {A : Option Addr} (H : Fsb w g room used mf next ms mn rowf acts) (Hn : w.heap[mn]? = some (.map seenOne 1)) (Hf : w.heap[mf]? = some (.map (fileOne x) 1)) (Hx : Fileb w x sure (.slice A n cap) row) :
    Calls Try.prog 44 #[.pointer (some ⟨g, 0, none⟩), .string nameS] w fun e w' => e = .returned (.tuple #[.int .i64 n, .int .i64 0]) ∧ Below w.heap.size w w' := by
  have HH := Aside0.mk H
  have HN := Aside0.mk Hn
  have HF := Aside0.mk Hf
  have HX := Aside0.mk Hx
  clear H Hn Hf Hx
  go_enter Try.func44, Try.ntmps44
  go_wp2_with (go_at_call 51; (with_reducible refine (get_on HH.out HN.out HF.out).mono ?_); rintro e w2 ⟨rfl, hb⟩; have HB := Aside0.mk hb; have c1 := (HX.out.below hb).c1; clear hb)
  go_ret2
  exact ⟨rfl, HB.out⟩
theorem size_no {w : World} {g : Nat} {room used : Int} {mf : Nat} {next : Int} {ms mn : Nat} {rowf : Value} {acts : Int} {s : ByteArray} (H : Fsb w g room used mf next ms mn rowf acts) (Hn : NoName w mn s) :
    Calls Try.prog 44 #[.pointer (some ⟨g, 0, none⟩), .string s] w fun e w' => e = .returned (.tuple #[.int .i64 0, .int .i64 7]) ∧ Below w.heap.size w w' := by
  have HH := Aside0.mk H
  have HN := Aside0.mk Hn
  clear H Hn
  go_enter Try.func44, Try.ntmps44
  go_wp2_with (go_at_call 51; (with_reducible refine (get_no HH.out HN.out).mono ?_); rintro e w2 ⟨rfl, hb⟩; have HB := Aside0.mk hb; clear hb)
  go_ret2
  exact ⟨rfl, HB.out⟩
theorem none_on {w : World} {g : Nat} {room used : Int} {mf : Nat} {next : Int} {ms mn : Nat} {rowf : Value} {acts : Int} (H : Fsb w g room used mf next ms mn rowf acts) (Hn : NoName w mn ⟨#[]⟩) :
    Calls Try.prog 43 #[.pointer (some ⟨g, 0, none⟩)] w fun e w' => e = .returned (.bool false) ∧ Below w.heap.size w w' := by
  have HH := Aside0.mk H
  have HN := Aside0.mk Hn
  clear H Hn
  go_enter Try.func43, Try.ntmps43
  go_wp2_with (go_at_call 44; (with_reducible refine (size_no HH.out HN.out).mono ?_); rintro e w2 ⟨rfl, hb⟩; have HB := Aside0.mk hb; clear hb)
  go_ret
  exact ⟨rfl, HB.out⟩
theorem used_on {w : World} {g : Nat} {room used : Int} {mf : Nat} {next : Int} {ms mn : Nat} {rowf : Value} {acts : Int} (H : Fsb w g room used mf next ms mn rowf acts) :
    Calls Try.prog 29 #[.pointer (some ⟨g, 0, none⟩)] w fun e w' => e = .returned (.int .i64 used) ∧ Below w.heap.size w w' := by
  have HH := Aside0.mk H
  clear H
  go_enter Try.func29, Try.ntmps29
  go_wp2_with (go_at_call 50; (with_reducible refine (ready_on HH.out).mono ?_); rintro e w2 ⟨rfl, hb⟩; have HB := Aside0.mk hb; have c2 := (HH.out.below hb).c2; clear hb)
  go_ret
  exact ⟨rfl, HB.out⟩
end Go.Proofs.Ytjefgdggjchhbaa.PAll
