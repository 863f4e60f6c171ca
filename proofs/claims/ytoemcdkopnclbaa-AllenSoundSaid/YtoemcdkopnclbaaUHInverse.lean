/-
  allen.Inverse's contract: 12 - rel for a relation, -1 for any other number.
-/
import Derived.Test.YtoemcdkopnclbaaUAx4
import Derived.Test.YtoemcdkopnclbaaUBlk
namespace Go.Proofs.Ytoemcdkopnclbaa.A
open Go.RowKit Go.Proofs.YtoemcdkopnclbaaW.PrintWords Go.Proofs.YtoemcdkopnclbaaW.PrintLast Go.Proofs.YtoemcdkopnclbaaW.PrintMore
attribute [local go_sem] max2_int min2_int max_two min_two max_three min_three max_four min_four
set_option linter.unusedVariables false
set_option linter.unusedSimpArgs false
def allen_Inverse.f (a0 : Int) : Option Int := some (if 0 ≤ a0 ∧ a0 < 13 then 12 - a0 else -1)
theorem exists_f (a : Int) : allen_exists.f a = some (decide (0 ≤ a ∧ a < 13)) := by
 unfold allen_exists.f
 by_cases h : a ≥ 0
 ·simp [h]
 ·simp [h]
set_option maxHeartbeats 8000000 in
set_option maxRecDepth 100000 in
theorem allen_Inverse.calls (a0 : Int) (r : Int) (w : World) (h : allen_Inverse.f a0 = some r) :
  Calls Try.prog 14 #[.int .i64 a0] w fun e w' => e = .returned (.int .i64 r) ∧ Below w.heap.size w w' := by
 have hu48 := Try.underlying48
 have hu49 := Try.underlying49
 have HB := Aside0.mk (Below.refl w.heap.size w)
 have HE := Aside0.mk (exists_f a0)
 have H : (if 0 ≤ a0 ∧ a0 < 13 then 12 - a0 else -1) = r := Option.some.inj h
 clear h
 by_cases hin : 0 ≤ a0 ∧ a0 < 13
 ·rw [if_pos hin] at H
  subst H
  rw [decide_eq_true hin] at HE
  by_cases h6 : a0 = 6
  ·subst h6
   clear hin
   go_enter Try.func14, Try.ntmps14
   go_wp2_with (first | (go_at_call 32; (with_reducible refine (allen_exists.calls _ true _ HE.out).mono ?_); rintro e_ w' ⟨rfl, ⟨nd, rfl⟩⟩; have n0_ := Aside0.mk (pw_below_drewN HB.out nd); clear HB; have HB := n0_; clear n0_; generalize w.drewN nd = wd at *))
   go_ret
   exact ⟨rfl, HB.out⟩
  ·have h6b : (a0 == 6) = false := beq_eq_false_iff_ne.mpr h6
   have HIN := Aside0.mk hin
   have H6 := Aside0.mk h6
   clear hin h6
   have ix0 : ∀ W : World, (Instr.index 49 (.agg #[.int .i64 0, .int .i64 12, .int .i64 1, .int .i64 11, .int .i64 2, .int .i64 10, .int .i64 3, .int .i64 9, .int .i64 4, .int .i64 8, .int .i64 5, .int .i64 7]) (.int .i64 0)).run Try.prog W = .ok (.agg #[.int .i64 0, .int .i64 12]) W := fun _ => by kernel_rfl
   have ix1 : ∀ W : World, (Instr.index 49 (.agg #[.int .i64 0, .int .i64 12, .int .i64 1, .int .i64 11, .int .i64 2, .int .i64 10, .int .i64 3, .int .i64 9, .int .i64 4, .int .i64 8, .int .i64 5, .int .i64 7]) (.int .i64 1)).run Try.prog W = .ok (.agg #[.int .i64 1, .int .i64 11]) W := fun _ => by kernel_rfl
   have ix2 : ∀ W : World, (Instr.index 49 (.agg #[.int .i64 0, .int .i64 12, .int .i64 1, .int .i64 11, .int .i64 2, .int .i64 10, .int .i64 3, .int .i64 9, .int .i64 4, .int .i64 8, .int .i64 5, .int .i64 7]) (.int .i64 2)).run Try.prog W = .ok (.agg #[.int .i64 2, .int .i64 10]) W := fun _ => by kernel_rfl
   have ix3 : ∀ W : World, (Instr.index 49 (.agg #[.int .i64 0, .int .i64 12, .int .i64 1, .int .i64 11, .int .i64 2, .int .i64 10, .int .i64 3, .int .i64 9, .int .i64 4, .int .i64 8, .int .i64 5, .int .i64 7]) (.int .i64 3)).run Try.prog W = .ok (.agg #[.int .i64 3, .int .i64 9]) W := fun _ => by kernel_rfl
   have ix4 : ∀ W : World, (Instr.index 49 (.agg #[.int .i64 0, .int .i64 12, .int .i64 1, .int .i64 11, .int .i64 2, .int .i64 10, .int .i64 3, .int .i64 9, .int .i64 4, .int .i64 8, .int .i64 5, .int .i64 7]) (.int .i64 4)).run Try.prog W = .ok (.agg #[.int .i64 4, .int .i64 8]) W := fun _ => by kernel_rfl
   have ix5 : ∀ W : World, (Instr.index 49 (.agg #[.int .i64 0, .int .i64 12, .int .i64 1, .int .i64 11, .int .i64 2, .int .i64 10, .int .i64 3, .int .i64 9, .int .i64 4, .int .i64 8, .int .i64 5, .int .i64 7]) (.int .i64 5)).run Try.prog W = .ok (.agg #[.int .i64 5, .int .i64 7]) W := fun _ => by kernel_rfl
   go_enter Try.func14, Try.ntmps14
   go_upto_region 6 with (first | (go_at_call 32; (with_reducible refine (allen_exists.calls _ true _ HE.out).mono ?_); rintro e_ w' ⟨rfl, ⟨nd, rfl⟩⟩; have n0_ := Aside0.mk (pw_below_drewN HB.out nd); clear HB; have HB := n0_; clear n0_; generalize w.drewN nd = wd at *) | ((with_reducible refine gate_dst (N := 3) rfl ?_); refine box_event ?hg (N := 3) ?hd (cs := #[.int .i64 0, .int .i64 0, .int .i64 0, .int .i64 0, .int .i64 0, .int .i64 0, .int .i64 0, .int .i64 0, .int .i64 0, .int .i64 0, .int .i64 0, .int .i64 0]) (t := 49) ?hr ?_; (case hd => rfl); (case hg => rfl); (case hr => first | (go_simp; done) | (go_simp; rfl)); intro P hg w2 hbox hb; have BKP := Aside0.mk hbox; have GP := Aside0.mk (show w.heap.size ≤ P by rw [hg]; exact HB.out.size); have n0_ := Aside0.mk (below_step HB.out hb); clear HB; have HB := n0_; clear n0_ hbox hb hg) | ((with_reducible refine gate_store (t := 49) (p := 3) (v := .tmp 20) rfl ?_); refine Blk.store_whole rfl rfl 49 (.tmp 3) (.tmp 20) rfl #[.int .i64 0, .int .i64 12, .int .i64 1, .int .i64 11, .int .i64 2, .int .i64 10, .int .i64 3, .int .i64 9, .int .i64 4, .int .i64 8, .int .i64 5, .int .i64 7] rfl rfl rfl (by kernel_rfl) (by simp [Value.oneCell']) BKP.out rfl ?_; intro w3 hb3 hg3; have n0_ := Aside0.mk (Blk.below_wrote HB.out hg3 GP.out HB.out.size); clear HB BKP; have HB := n0_; have BKP := Aside0.mk hb3; clear n0_ hb3 hg3))
   go_wp2_with (first | ((with_reducible refine gate_dst (N := 21) rfl ?_); refine wpList_load_row rfl 49 (.tmp 3) rfl P rfl 49 _ (0, 0) _ BKP.out Try.underlying49 rfl (by kernel_rfl) ?_))
   go_loopg [22] 6 (fun kq v22 w' => ∃ i : Nat, v22 = .int .i64 i ∧ Aside0 (kq + i = 6) ∧ Aside0 (∀ j : Nat, j < i → a0 ≠ (j : Int) ∧ a0 ≠ 12 - (j : Int)) ∧ Aside0 (Below w.heap.size w w'))
   case atStart => exact ⟨0, rfl, ⟨rfl⟩, ⟨fun j hj => absurd hj (by omega)⟩, HB⟩
   case round =>
    clear HB BKP
    obtain ⟨i, rfl, HK, HP, HB⟩ := hrel
    have hi : i = 0 ∨ i = 1 ∨ i = 2 ∨ i = 3 ∨ i = 4 ∨ i = 5 ∨ i = 6 := by have := HK.out; omega
    rcases hi with rfl | rfl | rfl | rfl | rfl | rfl | rfl
    ·obtain rfl : gk = 6 := by have := HK.out; omega
     by_cases ca : a0 = 0
     ·subst ca
      go_wp2_with (first | ((with_reducible refine gate_dst (N := 5) rfl ?_); refine box_event ?hg (N := 5) ?hd (cs := #[.int .i64 0, .int .i64 0]) (t := 48) ?hr ?_; (case hd => rfl); (case hg => rfl); (case hr => first | (go_simp; done) | (go_simp; rfl)); intro Q hg w2 hbox hb; have BKQ := Aside0.mk hbox; have GQ := Aside0.mk (show w.heap.size ≤ Q by rw [hg]; exact HB.out.size); have n0_ := Aside0.mk (below_step HB.out hb); clear HB; have HB := n0_; clear n0_ hbox hb hg) | ((with_reducible refine gate_store (t := 48) (p := 5) (v := .tmp 24) rfl ?_); refine Blk.store_whole rfl rfl 48 (.tmp 5) (.tmp 24) rfl #[.int .i64 0, .int .i64 12] rfl rfl rfl (by kernel_rfl) (by simp [Value.oneCell']) BKQ.out rfl ?_; intro w3 hb3 hg3; have n0_ := Aside0.mk (Blk.below_wrote HB.out hg3 GQ.out HB.out.size); clear HB BKQ; have HB := n0_; have BKQ := Aside0.mk hb3; have hq0 := (blk_cell BKQ.out 0).trans rfl; have hq1 := (blk_cell BKQ.out 1).trans rfl; clear n0_ hb3 hg3))
      go_ret
      exact ⟨rfl, HB.out⟩
     ·have ca0 : (a0 == 0) = false := beq_eq_false_iff_ne.mpr ca
      by_cases cb : a0 = 12
      ·subst cb
       clear ca ca0
       go_wp2_with (first | ((with_reducible refine gate_dst (N := 5) rfl ?_); refine box_event ?hg (N := 5) ?hd (cs := #[.int .i64 0, .int .i64 0]) (t := 48) ?hr ?_; (case hd => rfl); (case hg => rfl); (case hr => first | (go_simp; done) | (go_simp; rfl)); intro Q hg w2 hbox hb; have BKQ := Aside0.mk hbox; have GQ := Aside0.mk (show w.heap.size ≤ Q by rw [hg]; exact HB.out.size); have n0_ := Aside0.mk (below_step HB.out hb); clear HB; have HB := n0_; clear n0_ hbox hb hg) | ((with_reducible refine gate_store (t := 48) (p := 5) (v := .tmp 24) rfl ?_); refine Blk.store_whole rfl rfl 48 (.tmp 5) (.tmp 24) rfl #[.int .i64 0, .int .i64 12] rfl rfl rfl (by kernel_rfl) (by simp [Value.oneCell']) BKQ.out rfl ?_; intro w3 hb3 hg3; have n0_ := Aside0.mk (Blk.below_wrote HB.out hg3 GQ.out HB.out.size); clear HB BKQ; have HB := n0_; have BKQ := Aside0.mk hb3; have hq0 := (blk_cell BKQ.out 0).trans rfl; have hq1 := (blk_cell BKQ.out 1).trans rfl; clear n0_ hb3 hg3))
       go_ret
       exact ⟨rfl, HB.out⟩
      ·have cb0 : (a0 == 12) = false := beq_eq_false_iff_ne.mpr cb
       have HN : Aside0 (∀ j : Nat, j < 1 → a0 ≠ (j : Int) ∧ a0 ≠ 12 - (j : Int)) := ⟨fun j hj => by
        by_cases hj2 : j = 0
        ·subst hj2; constructor <;> omega
        ·exact HP.out j (by omega)⟩
       clear ca cb
       go_wp2_with (first | ((with_reducible refine gate_dst (N := 5) rfl ?_); refine box_event ?hg (N := 5) ?hd (cs := #[.int .i64 0, .int .i64 0]) (t := 48) ?hr ?_; (case hd => rfl); (case hg => rfl); (case hr => first | (go_simp; done) | (go_simp; rfl)); intro Q hg w2 hbox hb; have BKQ := Aside0.mk hbox; have GQ := Aside0.mk (show w.heap.size ≤ Q by rw [hg]; exact HB.out.size); have n0_ := Aside0.mk (below_step HB.out hb); clear HB; have HB := n0_; clear n0_ hbox hb hg) | ((with_reducible refine gate_store (t := 48) (p := 5) (v := .tmp 24) rfl ?_); refine Blk.store_whole rfl rfl 48 (.tmp 5) (.tmp 24) rfl #[.int .i64 0, .int .i64 12] rfl rfl rfl (by kernel_rfl) (by simp [Value.oneCell']) BKQ.out rfl ?_; intro w3 hb3 hg3; have n0_ := Aside0.mk (Blk.below_wrote HB.out hg3 GQ.out HB.out.size); clear HB BKQ; have HB := n0_; have BKQ := Aside0.mk hb3; have hq0 := (blk_cell BKQ.out 0).trans rfl; have hq1 := (blk_cell BKQ.out 1).trans rfl; clear n0_ hb3 hg3))
       go_roundg 5
       case measure => omega
       case rel => exact ⟨1, rfl, ⟨rfl⟩, HN, HB⟩
    ·obtain rfl : gk = 5 := by have := HK.out; omega
     by_cases ca : a0 = 1
     ·subst ca
      go_wp2_with (first | ((with_reducible refine gate_dst (N := 5) rfl ?_); refine box_event ?hg (N := 5) ?hd (cs := #[.int .i64 0, .int .i64 0]) (t := 48) ?hr ?_; (case hd => rfl); (case hg => rfl); (case hr => first | (go_simp; done) | (go_simp; rfl)); intro Q hg w2 hbox hb; have BKQ := Aside0.mk hbox; have GQ := Aside0.mk (show w.heap.size ≤ Q by rw [hg]; exact HB.out.size); have n0_ := Aside0.mk (below_step HB.out hb); clear HB; have HB := n0_; clear n0_ hbox hb hg) | ((with_reducible refine gate_store (t := 48) (p := 5) (v := .tmp 24) rfl ?_); refine Blk.store_whole rfl rfl 48 (.tmp 5) (.tmp 24) rfl #[.int .i64 1, .int .i64 11] rfl rfl rfl (by kernel_rfl) (by simp [Value.oneCell']) BKQ.out rfl ?_; intro w3 hb3 hg3; have n0_ := Aside0.mk (Blk.below_wrote HB.out hg3 GQ.out HB.out.size); clear HB BKQ; have HB := n0_; have BKQ := Aside0.mk hb3; have hq0 := (blk_cell BKQ.out 0).trans rfl; have hq1 := (blk_cell BKQ.out 1).trans rfl; clear n0_ hb3 hg3))
      go_ret
      exact ⟨rfl, HB.out⟩
     ·have ca0 : (a0 == 1) = false := beq_eq_false_iff_ne.mpr ca
      by_cases cb : a0 = 11
      ·subst cb
       clear ca ca0
       go_wp2_with (first | ((with_reducible refine gate_dst (N := 5) rfl ?_); refine box_event ?hg (N := 5) ?hd (cs := #[.int .i64 0, .int .i64 0]) (t := 48) ?hr ?_; (case hd => rfl); (case hg => rfl); (case hr => first | (go_simp; done) | (go_simp; rfl)); intro Q hg w2 hbox hb; have BKQ := Aside0.mk hbox; have GQ := Aside0.mk (show w.heap.size ≤ Q by rw [hg]; exact HB.out.size); have n0_ := Aside0.mk (below_step HB.out hb); clear HB; have HB := n0_; clear n0_ hbox hb hg) | ((with_reducible refine gate_store (t := 48) (p := 5) (v := .tmp 24) rfl ?_); refine Blk.store_whole rfl rfl 48 (.tmp 5) (.tmp 24) rfl #[.int .i64 1, .int .i64 11] rfl rfl rfl (by kernel_rfl) (by simp [Value.oneCell']) BKQ.out rfl ?_; intro w3 hb3 hg3; have n0_ := Aside0.mk (Blk.below_wrote HB.out hg3 GQ.out HB.out.size); clear HB BKQ; have HB := n0_; have BKQ := Aside0.mk hb3; have hq0 := (blk_cell BKQ.out 0).trans rfl; have hq1 := (blk_cell BKQ.out 1).trans rfl; clear n0_ hb3 hg3))
       go_ret
       exact ⟨rfl, HB.out⟩
      ·have cb0 : (a0 == 11) = false := beq_eq_false_iff_ne.mpr cb
       have HN : Aside0 (∀ j : Nat, j < 2 → a0 ≠ (j : Int) ∧ a0 ≠ 12 - (j : Int)) := ⟨fun j hj => by
        by_cases hj2 : j = 1
        ·subst hj2; constructor <;> omega
        ·exact HP.out j (by omega)⟩
       clear ca cb
       go_wp2_with (first | ((with_reducible refine gate_dst (N := 5) rfl ?_); refine box_event ?hg (N := 5) ?hd (cs := #[.int .i64 0, .int .i64 0]) (t := 48) ?hr ?_; (case hd => rfl); (case hg => rfl); (case hr => first | (go_simp; done) | (go_simp; rfl)); intro Q hg w2 hbox hb; have BKQ := Aside0.mk hbox; have GQ := Aside0.mk (show w.heap.size ≤ Q by rw [hg]; exact HB.out.size); have n0_ := Aside0.mk (below_step HB.out hb); clear HB; have HB := n0_; clear n0_ hbox hb hg) | ((with_reducible refine gate_store (t := 48) (p := 5) (v := .tmp 24) rfl ?_); refine Blk.store_whole rfl rfl 48 (.tmp 5) (.tmp 24) rfl #[.int .i64 1, .int .i64 11] rfl rfl rfl (by kernel_rfl) (by simp [Value.oneCell']) BKQ.out rfl ?_; intro w3 hb3 hg3; have n0_ := Aside0.mk (Blk.below_wrote HB.out hg3 GQ.out HB.out.size); clear HB BKQ; have HB := n0_; have BKQ := Aside0.mk hb3; have hq0 := (blk_cell BKQ.out 0).trans rfl; have hq1 := (blk_cell BKQ.out 1).trans rfl; clear n0_ hb3 hg3))
       go_roundg 4
       case measure => omega
       case rel => exact ⟨2, rfl, ⟨rfl⟩, HN, HB⟩
    ·obtain rfl : gk = 4 := by have := HK.out; omega
     by_cases ca : a0 = 2
     ·subst ca
      go_wp2_with (first | ((with_reducible refine gate_dst (N := 5) rfl ?_); refine box_event ?hg (N := 5) ?hd (cs := #[.int .i64 0, .int .i64 0]) (t := 48) ?hr ?_; (case hd => rfl); (case hg => rfl); (case hr => first | (go_simp; done) | (go_simp; rfl)); intro Q hg w2 hbox hb; have BKQ := Aside0.mk hbox; have GQ := Aside0.mk (show w.heap.size ≤ Q by rw [hg]; exact HB.out.size); have n0_ := Aside0.mk (below_step HB.out hb); clear HB; have HB := n0_; clear n0_ hbox hb hg) | ((with_reducible refine gate_store (t := 48) (p := 5) (v := .tmp 24) rfl ?_); refine Blk.store_whole rfl rfl 48 (.tmp 5) (.tmp 24) rfl #[.int .i64 2, .int .i64 10] rfl rfl rfl (by kernel_rfl) (by simp [Value.oneCell']) BKQ.out rfl ?_; intro w3 hb3 hg3; have n0_ := Aside0.mk (Blk.below_wrote HB.out hg3 GQ.out HB.out.size); clear HB BKQ; have HB := n0_; have BKQ := Aside0.mk hb3; have hq0 := (blk_cell BKQ.out 0).trans rfl; have hq1 := (blk_cell BKQ.out 1).trans rfl; clear n0_ hb3 hg3))
      go_ret
      exact ⟨rfl, HB.out⟩
     ·have ca0 : (a0 == 2) = false := beq_eq_false_iff_ne.mpr ca
      by_cases cb : a0 = 10
      ·subst cb
       clear ca ca0
       go_wp2_with (first | ((with_reducible refine gate_dst (N := 5) rfl ?_); refine box_event ?hg (N := 5) ?hd (cs := #[.int .i64 0, .int .i64 0]) (t := 48) ?hr ?_; (case hd => rfl); (case hg => rfl); (case hr => first | (go_simp; done) | (go_simp; rfl)); intro Q hg w2 hbox hb; have BKQ := Aside0.mk hbox; have GQ := Aside0.mk (show w.heap.size ≤ Q by rw [hg]; exact HB.out.size); have n0_ := Aside0.mk (below_step HB.out hb); clear HB; have HB := n0_; clear n0_ hbox hb hg) | ((with_reducible refine gate_store (t := 48) (p := 5) (v := .tmp 24) rfl ?_); refine Blk.store_whole rfl rfl 48 (.tmp 5) (.tmp 24) rfl #[.int .i64 2, .int .i64 10] rfl rfl rfl (by kernel_rfl) (by simp [Value.oneCell']) BKQ.out rfl ?_; intro w3 hb3 hg3; have n0_ := Aside0.mk (Blk.below_wrote HB.out hg3 GQ.out HB.out.size); clear HB BKQ; have HB := n0_; have BKQ := Aside0.mk hb3; have hq0 := (blk_cell BKQ.out 0).trans rfl; have hq1 := (blk_cell BKQ.out 1).trans rfl; clear n0_ hb3 hg3))
       go_ret
       exact ⟨rfl, HB.out⟩
      ·have cb0 : (a0 == 10) = false := beq_eq_false_iff_ne.mpr cb
       have HN : Aside0 (∀ j : Nat, j < 3 → a0 ≠ (j : Int) ∧ a0 ≠ 12 - (j : Int)) := ⟨fun j hj => by
        by_cases hj2 : j = 2
        ·subst hj2; constructor <;> omega
        ·exact HP.out j (by omega)⟩
       clear ca cb
       go_wp2_with (first | ((with_reducible refine gate_dst (N := 5) rfl ?_); refine box_event ?hg (N := 5) ?hd (cs := #[.int .i64 0, .int .i64 0]) (t := 48) ?hr ?_; (case hd => rfl); (case hg => rfl); (case hr => first | (go_simp; done) | (go_simp; rfl)); intro Q hg w2 hbox hb; have BKQ := Aside0.mk hbox; have GQ := Aside0.mk (show w.heap.size ≤ Q by rw [hg]; exact HB.out.size); have n0_ := Aside0.mk (below_step HB.out hb); clear HB; have HB := n0_; clear n0_ hbox hb hg) | ((with_reducible refine gate_store (t := 48) (p := 5) (v := .tmp 24) rfl ?_); refine Blk.store_whole rfl rfl 48 (.tmp 5) (.tmp 24) rfl #[.int .i64 2, .int .i64 10] rfl rfl rfl (by kernel_rfl) (by simp [Value.oneCell']) BKQ.out rfl ?_; intro w3 hb3 hg3; have n0_ := Aside0.mk (Blk.below_wrote HB.out hg3 GQ.out HB.out.size); clear HB BKQ; have HB := n0_; have BKQ := Aside0.mk hb3; have hq0 := (blk_cell BKQ.out 0).trans rfl; have hq1 := (blk_cell BKQ.out 1).trans rfl; clear n0_ hb3 hg3))
       go_roundg 3
       case measure => omega
       case rel => exact ⟨3, rfl, ⟨rfl⟩, HN, HB⟩
    ·obtain rfl : gk = 3 := by have := HK.out; omega
     by_cases ca : a0 = 3
     ·subst ca
      go_wp2_with (first | ((with_reducible refine gate_dst (N := 5) rfl ?_); refine box_event ?hg (N := 5) ?hd (cs := #[.int .i64 0, .int .i64 0]) (t := 48) ?hr ?_; (case hd => rfl); (case hg => rfl); (case hr => first | (go_simp; done) | (go_simp; rfl)); intro Q hg w2 hbox hb; have BKQ := Aside0.mk hbox; have GQ := Aside0.mk (show w.heap.size ≤ Q by rw [hg]; exact HB.out.size); have n0_ := Aside0.mk (below_step HB.out hb); clear HB; have HB := n0_; clear n0_ hbox hb hg) | ((with_reducible refine gate_store (t := 48) (p := 5) (v := .tmp 24) rfl ?_); refine Blk.store_whole rfl rfl 48 (.tmp 5) (.tmp 24) rfl #[.int .i64 3, .int .i64 9] rfl rfl rfl (by kernel_rfl) (by simp [Value.oneCell']) BKQ.out rfl ?_; intro w3 hb3 hg3; have n0_ := Aside0.mk (Blk.below_wrote HB.out hg3 GQ.out HB.out.size); clear HB BKQ; have HB := n0_; have BKQ := Aside0.mk hb3; have hq0 := (blk_cell BKQ.out 0).trans rfl; have hq1 := (blk_cell BKQ.out 1).trans rfl; clear n0_ hb3 hg3))
      go_ret
      exact ⟨rfl, HB.out⟩
     ·have ca0 : (a0 == 3) = false := beq_eq_false_iff_ne.mpr ca
      by_cases cb : a0 = 9
      ·subst cb
       clear ca ca0
       go_wp2_with (first | ((with_reducible refine gate_dst (N := 5) rfl ?_); refine box_event ?hg (N := 5) ?hd (cs := #[.int .i64 0, .int .i64 0]) (t := 48) ?hr ?_; (case hd => rfl); (case hg => rfl); (case hr => first | (go_simp; done) | (go_simp; rfl)); intro Q hg w2 hbox hb; have BKQ := Aside0.mk hbox; have GQ := Aside0.mk (show w.heap.size ≤ Q by rw [hg]; exact HB.out.size); have n0_ := Aside0.mk (below_step HB.out hb); clear HB; have HB := n0_; clear n0_ hbox hb hg) | ((with_reducible refine gate_store (t := 48) (p := 5) (v := .tmp 24) rfl ?_); refine Blk.store_whole rfl rfl 48 (.tmp 5) (.tmp 24) rfl #[.int .i64 3, .int .i64 9] rfl rfl rfl (by kernel_rfl) (by simp [Value.oneCell']) BKQ.out rfl ?_; intro w3 hb3 hg3; have n0_ := Aside0.mk (Blk.below_wrote HB.out hg3 GQ.out HB.out.size); clear HB BKQ; have HB := n0_; have BKQ := Aside0.mk hb3; have hq0 := (blk_cell BKQ.out 0).trans rfl; have hq1 := (blk_cell BKQ.out 1).trans rfl; clear n0_ hb3 hg3))
       go_ret
       exact ⟨rfl, HB.out⟩
      ·have cb0 : (a0 == 9) = false := beq_eq_false_iff_ne.mpr cb
       have HN : Aside0 (∀ j : Nat, j < 4 → a0 ≠ (j : Int) ∧ a0 ≠ 12 - (j : Int)) := ⟨fun j hj => by
        by_cases hj2 : j = 3
        ·subst hj2; constructor <;> omega
        ·exact HP.out j (by omega)⟩
       clear ca cb
       go_wp2_with (first | ((with_reducible refine gate_dst (N := 5) rfl ?_); refine box_event ?hg (N := 5) ?hd (cs := #[.int .i64 0, .int .i64 0]) (t := 48) ?hr ?_; (case hd => rfl); (case hg => rfl); (case hr => first | (go_simp; done) | (go_simp; rfl)); intro Q hg w2 hbox hb; have BKQ := Aside0.mk hbox; have GQ := Aside0.mk (show w.heap.size ≤ Q by rw [hg]; exact HB.out.size); have n0_ := Aside0.mk (below_step HB.out hb); clear HB; have HB := n0_; clear n0_ hbox hb hg) | ((with_reducible refine gate_store (t := 48) (p := 5) (v := .tmp 24) rfl ?_); refine Blk.store_whole rfl rfl 48 (.tmp 5) (.tmp 24) rfl #[.int .i64 3, .int .i64 9] rfl rfl rfl (by kernel_rfl) (by simp [Value.oneCell']) BKQ.out rfl ?_; intro w3 hb3 hg3; have n0_ := Aside0.mk (Blk.below_wrote HB.out hg3 GQ.out HB.out.size); clear HB BKQ; have HB := n0_; have BKQ := Aside0.mk hb3; have hq0 := (blk_cell BKQ.out 0).trans rfl; have hq1 := (blk_cell BKQ.out 1).trans rfl; clear n0_ hb3 hg3))
       go_roundg 2
       case measure => omega
       case rel => exact ⟨4, rfl, ⟨rfl⟩, HN, HB⟩
    ·obtain rfl : gk = 2 := by have := HK.out; omega
     by_cases ca : a0 = 4
     ·subst ca
      go_wp2_with (first | ((with_reducible refine gate_dst (N := 5) rfl ?_); refine box_event ?hg (N := 5) ?hd (cs := #[.int .i64 0, .int .i64 0]) (t := 48) ?hr ?_; (case hd => rfl); (case hg => rfl); (case hr => first | (go_simp; done) | (go_simp; rfl)); intro Q hg w2 hbox hb; have BKQ := Aside0.mk hbox; have GQ := Aside0.mk (show w.heap.size ≤ Q by rw [hg]; exact HB.out.size); have n0_ := Aside0.mk (below_step HB.out hb); clear HB; have HB := n0_; clear n0_ hbox hb hg) | ((with_reducible refine gate_store (t := 48) (p := 5) (v := .tmp 24) rfl ?_); refine Blk.store_whole rfl rfl 48 (.tmp 5) (.tmp 24) rfl #[.int .i64 4, .int .i64 8] rfl rfl rfl (by kernel_rfl) (by simp [Value.oneCell']) BKQ.out rfl ?_; intro w3 hb3 hg3; have n0_ := Aside0.mk (Blk.below_wrote HB.out hg3 GQ.out HB.out.size); clear HB BKQ; have HB := n0_; have BKQ := Aside0.mk hb3; have hq0 := (blk_cell BKQ.out 0).trans rfl; have hq1 := (blk_cell BKQ.out 1).trans rfl; clear n0_ hb3 hg3))
      go_ret
      exact ⟨rfl, HB.out⟩
     ·have ca0 : (a0 == 4) = false := beq_eq_false_iff_ne.mpr ca
      by_cases cb : a0 = 8
      ·subst cb
       clear ca ca0
       go_wp2_with (first | ((with_reducible refine gate_dst (N := 5) rfl ?_); refine box_event ?hg (N := 5) ?hd (cs := #[.int .i64 0, .int .i64 0]) (t := 48) ?hr ?_; (case hd => rfl); (case hg => rfl); (case hr => first | (go_simp; done) | (go_simp; rfl)); intro Q hg w2 hbox hb; have BKQ := Aside0.mk hbox; have GQ := Aside0.mk (show w.heap.size ≤ Q by rw [hg]; exact HB.out.size); have n0_ := Aside0.mk (below_step HB.out hb); clear HB; have HB := n0_; clear n0_ hbox hb hg) | ((with_reducible refine gate_store (t := 48) (p := 5) (v := .tmp 24) rfl ?_); refine Blk.store_whole rfl rfl 48 (.tmp 5) (.tmp 24) rfl #[.int .i64 4, .int .i64 8] rfl rfl rfl (by kernel_rfl) (by simp [Value.oneCell']) BKQ.out rfl ?_; intro w3 hb3 hg3; have n0_ := Aside0.mk (Blk.below_wrote HB.out hg3 GQ.out HB.out.size); clear HB BKQ; have HB := n0_; have BKQ := Aside0.mk hb3; have hq0 := (blk_cell BKQ.out 0).trans rfl; have hq1 := (blk_cell BKQ.out 1).trans rfl; clear n0_ hb3 hg3))
       go_ret
       exact ⟨rfl, HB.out⟩
      ·have cb0 : (a0 == 8) = false := beq_eq_false_iff_ne.mpr cb
       have HN : Aside0 (∀ j : Nat, j < 5 → a0 ≠ (j : Int) ∧ a0 ≠ 12 - (j : Int)) := ⟨fun j hj => by
        by_cases hj2 : j = 4
        ·subst hj2; constructor <;> omega
        ·exact HP.out j (by omega)⟩
       clear ca cb
       go_wp2_with (first | ((with_reducible refine gate_dst (N := 5) rfl ?_); refine box_event ?hg (N := 5) ?hd (cs := #[.int .i64 0, .int .i64 0]) (t := 48) ?hr ?_; (case hd => rfl); (case hg => rfl); (case hr => first | (go_simp; done) | (go_simp; rfl)); intro Q hg w2 hbox hb; have BKQ := Aside0.mk hbox; have GQ := Aside0.mk (show w.heap.size ≤ Q by rw [hg]; exact HB.out.size); have n0_ := Aside0.mk (below_step HB.out hb); clear HB; have HB := n0_; clear n0_ hbox hb hg) | ((with_reducible refine gate_store (t := 48) (p := 5) (v := .tmp 24) rfl ?_); refine Blk.store_whole rfl rfl 48 (.tmp 5) (.tmp 24) rfl #[.int .i64 4, .int .i64 8] rfl rfl rfl (by kernel_rfl) (by simp [Value.oneCell']) BKQ.out rfl ?_; intro w3 hb3 hg3; have n0_ := Aside0.mk (Blk.below_wrote HB.out hg3 GQ.out HB.out.size); clear HB BKQ; have HB := n0_; have BKQ := Aside0.mk hb3; have hq0 := (blk_cell BKQ.out 0).trans rfl; have hq1 := (blk_cell BKQ.out 1).trans rfl; clear n0_ hb3 hg3))
       go_roundg 1
       case measure => omega
       case rel => exact ⟨5, rfl, ⟨rfl⟩, HN, HB⟩
    ·obtain rfl : gk = 1 := by have := HK.out; omega
     by_cases ca : a0 = 5
     ·subst ca
      go_wp2_with (first | ((with_reducible refine gate_dst (N := 5) rfl ?_); refine box_event ?hg (N := 5) ?hd (cs := #[.int .i64 0, .int .i64 0]) (t := 48) ?hr ?_; (case hd => rfl); (case hg => rfl); (case hr => first | (go_simp; done) | (go_simp; rfl)); intro Q hg w2 hbox hb; have BKQ := Aside0.mk hbox; have GQ := Aside0.mk (show w.heap.size ≤ Q by rw [hg]; exact HB.out.size); have n0_ := Aside0.mk (below_step HB.out hb); clear HB; have HB := n0_; clear n0_ hbox hb hg) | ((with_reducible refine gate_store (t := 48) (p := 5) (v := .tmp 24) rfl ?_); refine Blk.store_whole rfl rfl 48 (.tmp 5) (.tmp 24) rfl #[.int .i64 5, .int .i64 7] rfl rfl rfl (by kernel_rfl) (by simp [Value.oneCell']) BKQ.out rfl ?_; intro w3 hb3 hg3; have n0_ := Aside0.mk (Blk.below_wrote HB.out hg3 GQ.out HB.out.size); clear HB BKQ; have HB := n0_; have BKQ := Aside0.mk hb3; have hq0 := (blk_cell BKQ.out 0).trans rfl; have hq1 := (blk_cell BKQ.out 1).trans rfl; clear n0_ hb3 hg3))
      go_ret
      exact ⟨rfl, HB.out⟩
     ·have ca0 : (a0 == 5) = false := beq_eq_false_iff_ne.mpr ca
      by_cases cb : a0 = 7
      ·subst cb
       clear ca ca0
       go_wp2_with (first | ((with_reducible refine gate_dst (N := 5) rfl ?_); refine box_event ?hg (N := 5) ?hd (cs := #[.int .i64 0, .int .i64 0]) (t := 48) ?hr ?_; (case hd => rfl); (case hg => rfl); (case hr => first | (go_simp; done) | (go_simp; rfl)); intro Q hg w2 hbox hb; have BKQ := Aside0.mk hbox; have GQ := Aside0.mk (show w.heap.size ≤ Q by rw [hg]; exact HB.out.size); have n0_ := Aside0.mk (below_step HB.out hb); clear HB; have HB := n0_; clear n0_ hbox hb hg) | ((with_reducible refine gate_store (t := 48) (p := 5) (v := .tmp 24) rfl ?_); refine Blk.store_whole rfl rfl 48 (.tmp 5) (.tmp 24) rfl #[.int .i64 5, .int .i64 7] rfl rfl rfl (by kernel_rfl) (by simp [Value.oneCell']) BKQ.out rfl ?_; intro w3 hb3 hg3; have n0_ := Aside0.mk (Blk.below_wrote HB.out hg3 GQ.out HB.out.size); clear HB BKQ; have HB := n0_; have BKQ := Aside0.mk hb3; have hq0 := (blk_cell BKQ.out 0).trans rfl; have hq1 := (blk_cell BKQ.out 1).trans rfl; clear n0_ hb3 hg3))
       go_ret
       exact ⟨rfl, HB.out⟩
      ·have cb0 : (a0 == 7) = false := beq_eq_false_iff_ne.mpr cb
       have HN : Aside0 (∀ j : Nat, j < 6 → a0 ≠ (j : Int) ∧ a0 ≠ 12 - (j : Int)) := ⟨fun j hj => by
        by_cases hj2 : j = 5
        ·subst hj2; constructor <;> omega
        ·exact HP.out j (by omega)⟩
       clear ca cb
       go_wp2_with (first | ((with_reducible refine gate_dst (N := 5) rfl ?_); refine box_event ?hg (N := 5) ?hd (cs := #[.int .i64 0, .int .i64 0]) (t := 48) ?hr ?_; (case hd => rfl); (case hg => rfl); (case hr => first | (go_simp; done) | (go_simp; rfl)); intro Q hg w2 hbox hb; have BKQ := Aside0.mk hbox; have GQ := Aside0.mk (show w.heap.size ≤ Q by rw [hg]; exact HB.out.size); have n0_ := Aside0.mk (below_step HB.out hb); clear HB; have HB := n0_; clear n0_ hbox hb hg) | ((with_reducible refine gate_store (t := 48) (p := 5) (v := .tmp 24) rfl ?_); refine Blk.store_whole rfl rfl 48 (.tmp 5) (.tmp 24) rfl #[.int .i64 5, .int .i64 7] rfl rfl rfl (by kernel_rfl) (by simp [Value.oneCell']) BKQ.out rfl ?_; intro w3 hb3 hg3; have n0_ := Aside0.mk (Blk.below_wrote HB.out hg3 GQ.out HB.out.size); clear HB BKQ; have HB := n0_; have BKQ := Aside0.mk hb3; have hq0 := (blk_cell BKQ.out 0).trans rfl; have hq1 := (blk_cell BKQ.out 1).trans rfl; clear n0_ hb3 hg3))
       go_roundg 0
       case measure => omega
       case rel => exact ⟨6, rfl, ⟨rfl⟩, HN, HB⟩
    ·have h0 := HP.out 0 (by omega)
     have h1 := HP.out 1 (by omega)
     have h2 := HP.out 2 (by omega)
     have h3 := HP.out 3 (by omega)
     have h4 := HP.out 4 (by omega)
     have h5 := HP.out 5 (by omega)
     have := HIN.out
     have := H6.out
     omega
 ·rw [if_neg hin] at H
  subst H
  rw [decide_eq_false hin] at HE
  clear hin
  go_enter Try.func14, Try.ntmps14
  go_wp2_with (first | (go_at_call 32; (with_reducible refine (allen_exists.calls _ false _ HE.out).mono ?_); rintro e_ w' ⟨rfl, ⟨nd, rfl⟩⟩; have n0_ := Aside0.mk (pw_below_drewN HB.out nd); clear HB; have HB := n0_; clear n0_; generalize w.drewN nd = wd at *))
  go_ret
  exact ⟨rfl, HB.out⟩
end Go.Proofs.Ytoemcdkopnclbaa.A
