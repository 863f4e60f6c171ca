-- Written by a program (given_print.py of this session, over the kit's print.py): all laws of the seat in one namespace, some functions proved by hand elsewhere. Lean checks it.
import Derived.Test.YtoemcdkopnclbaaUAx0
import Derived.Test.YtoemcdkopnclbaaUAx1
import Derived.Test.YtoemcdkopnclbaaUAx2
namespace Go.Proofs.Ytoemcdkopnclbaa.A
open Go.RowKit Go.Proofs.YtoemcdkopnclbaaW.PrintWords Go.Proofs.YtoemcdkopnclbaaW.PrintLast Go.Proofs.YtoemcdkopnclbaaW.PrintMore
attribute [local go_sem] max2_int min2_int max_two min_two max_three min_three max_four min_four
set_option linter.unusedVariables false
set_option linter.unusedSimpArgs false
attribute [local go_sem high] eqA23
mutual
def allen_Relation.j0 : Nat → Bool → Int → Int → Int → Int → Option (Int × Bool)
 | 0, _, _, _, _, _ => none
 | k + 1, x13, x103000, x103001, x104000, x104001 => if x13 = true then (some (0, false)) else (if x103001 < x104000 then (some (0, true)) else (if x103001 = x104000 then (some (1, true)) else (if x104001 < x103000 then (some (12, true)) else (if x104001 = x103000 then (some (11, true)) else (if (x103000 == x104000 && (x103001 == x104001)) = true then (some (6, true)) else (if x103000 = x104000 then (allen_Relation.j1 k (decide (x103001 < x104001)) x103000 x103001 x104000 x104001) else (allen_Relation.j1 k false x103000 x103001 x104000 x104001)))))))
def allen_Relation.j1 : Nat → Bool → Int → Int → Int → Int → Option (Int × Bool)
 | 0, _, _, _, _, _ => none
 | k + 1, x42, x103000, x103001, x104000, x104001 => if x42 = true then (some (3, true)) else (if x103000 = x104000 then (some (9, true)) else (if x103001 = x104001 then (allen_Relation.j2 k (decide (x103000 > x104000)) x103000 x103001 x104000 x104001) else (allen_Relation.j2 k false x103000 x103001 x104000 x104001)))
def allen_Relation.j2 : Nat → Bool → Int → Int → Int → Int → Option (Int × Bool)
 | 0, _, _, _, _, _ => none
 | k + 1, x61, x103000, x103001, x104000, x104001 => if x61 = true then (some (5, true)) else (if x103001 = x104001 then (some (7, true)) else (if x103000 < x104000 then (allen_Relation.j3 k (decide (x104001 < x103001)) x103000 x103001 x104000 x104001) else (allen_Relation.j3 k false x103000 x103001 x104000 x104001)))
def allen_Relation.j3 : Nat → Bool → Int → Int → Int → Int → Option (Int × Bool)
 | 0, _, _, _, _, _ => none
 | k + 1, x80, x103000, x103001, x104000, x104001 => if x80 = true then (some (8, true)) else (if x104000 < x103000 then (allen_Relation.j4 k (decide (x103001 < x104001)) x103000 x103001 x104000 x104001) else (allen_Relation.j4 k false x103000 x103001 x104000 x104001))
def allen_Relation.j4 : Nat → Bool → Int → Int → Int → Int → Option (Int × Bool)
 | 0, _, _, _, _, _ => none
 | k + 1, x93, x103000, x103001, x104000, x104001 => if x93 = true then (some (4, true)) else (if x103000 < x104000 then (some (2, true)) else (some (10, true)))
end
def allen_Relation.f (k : Nat) (a0_0 : Int) (a0_1 : Int) (a1_0 : Int) (a1_1 : Int) : Option (Int × Bool) := (period_Valid.f a0_0 a0_1).bind fun t104 => (if t104 = true then ((period_Valid.f a1_0 a1_1).bind fun t105 => (allen_Relation.j0 k (!t105) a0_0 a0_1 a1_0 a1_1)) else (allen_Relation.j0 k true a0_0 a0_1 a1_0 a1_1))
set_option maxHeartbeats 8000000 in
set_option maxRecDepth 100000 in
theorem allen_Relation.calls (k : Nat) (a0_0 : Int) (a0_1 : Int) (a1_0 : Int) (a1_1 : Int) (r1 : Int) (r2 : Bool) (w : World) (h : allen_Relation.f k a0_0 a0_1 a1_0 a1_1 = some (r1, r2)) :
  Calls Try.prog 12 #[.agg #[.int .i64 a0_0, .int .i64 a0_1], .agg #[.int .i64 a1_0, .int .i64 a1_1]] w fun e w' => e = .returned (.tuple #[.int .i64 r1, .bool r2]) ∧ Below w.heap.size w w' := by
 have hu23 := Try.underlying23
 have HB := Aside0.mk (Below.refl w.heap.size w)
 have H : ((period_Valid.f a0_0 a0_1).bind fun t104 => (if t104 = true then ((period_Valid.f a1_0 a1_1).bind fun t105 => (allen_Relation.j0 k (!t105) a0_0 a0_1 a1_0 a1_1)) else (allen_Relation.j0 k true a0_0 a0_1 a1_0 a1_1))) = some (r1, r2) := h
 clear h
 have HC3 := Aside0.mk H
 clear H
 go_enter Try.func12, Try.ntmps12
 go_upto_region 1 with (first | ((with_reducible refine gate_dst (N := 2) rfl ?_); refine box_event ?hg (N := 2) ?hd (cs := #[.int .i64 a0_0, .int .i64 a0_1]) (t := 23) ?hr ?_; (case hd => rfl); (case hg => rfl); (case hr => first | (go_simp; done) | (go_simp; rfl)); intro gb102 hg w4 hbox hb; have n0_ := Aside0.mk (below_step (by repeat (first | (with_reducible first | exact HB.out | apply below_alloc | apply pw_below_drewN | apply below_drew1) | exact HB.out)) hb); have n1_ := Aside0.mk (hbox); have n2_ := Aside0.mk ((by rw [hg]; exact (below_size (by repeat (first | (with_reducible first | exact HB.out | apply below_alloc | apply pw_below_drewN | apply below_drew1) | exact HB.out))) : w.heap.size ≤ gb102)); have n3_ := Aside0.mk ((by rw [hg]; exact (below_size (by repeat (first | (with_reducible first | exact HB.out | apply below_alloc | apply pw_below_drewN | apply below_drew1) | exact HB.out))) : w.heap.size ≤ gb102)); clear HB; have HB := n0_; have BK102 := n1_; have GW102 := n2_; have GE102 := n3_; clear n0_ n1_ n2_ n3_; clear hb hbox hg) | ((with_reducible refine gate_dst (N := 3) rfl ?_); refine box_event ?hg (N := 3) ?hd (cs := #[.int .i64 a1_0, .int .i64 a1_1]) (t := 23) ?hr ?_; (case hd => rfl); (case hg => rfl); (case hr => first | (go_simp; done) | (go_simp; rfl)); intro gb103 hg w5 hbox hb; have n0_ := Aside0.mk (blk_below (g := gb102) (o := .cells #[.int .i64 a0_0, .int .i64 a0_1] 23 (0, 0)) (by (with_reducible repeat (first | refine blk_drewN ?_ _ | refine blk_drew ?_ | refine blk_alloc ?_ _)); exact BK102.out) hb); have n1_ := Aside0.mk (below_step (by repeat (first | (with_reducible first | exact HB.out | apply below_alloc | apply pw_below_drewN | apply below_drew1 | refine below_set ?_ GE102.out) | exact HB.out)) hb); have n2_ := Aside0.mk (hbox); have n3_ := Aside0.mk ((by rw [hg]; exact (below_size (by repeat (first | (with_reducible first | exact HB.out | apply below_alloc | apply pw_below_drewN | apply below_drew1 | refine below_set ?_ GE102.out) | exact HB.out))) : w.heap.size ≤ gb103)); have n4_ := Aside0.mk ((by rw [hg]; exact (below_size (by repeat (first | (with_reducible first | exact HB.out | apply below_alloc | apply pw_below_drewN | apply below_drew1 | refine below_set ?_ GE102.out) | exact HB.out))) : w.heap.size ≤ gb103)); have n5_ := Aside0.mk ((by rw [hg]; exact Nat.ne_of_lt (blk_lt (g := gb102) (o := .cells #[.int .i64 a0_0, .int .i64 a0_1] 23 (0, 0)) (by (with_reducible repeat (first | refine blk_drewN ?_ _ | refine blk_drew ?_ | refine blk_alloc ?_ _)); exact BK102.out)) : gb102 ≠ gb103)); have n6_ := Aside0.mk ((by rw [hg]; exact Nat.ne_of_gt (blk_lt (g := gb102) (o := .cells #[.int .i64 a0_0, .int .i64 a0_1] 23 (0, 0)) (by (with_reducible repeat (first | refine blk_drewN ?_ _ | refine blk_drew ?_ | refine blk_alloc ?_ _)); exact BK102.out)) : gb103 ≠ gb102)); clear BK102; clear HB; have BK102 := n0_; have HB := n1_; have BK103 := n2_; have GW103 := n3_; have GE103 := n4_; have NB102_103 := n5_; have NB103_102 := n6_; clear n0_ n1_ n2_ n3_ n4_ n5_ n6_; clear hb hbox hg))
 (try simp only [Act.put, List.setIfInBounds_toArray, List.set_cons_zero, List.set_cons_succ])
 go_cut [13] (fun v13 wc => ∃ (kq : Nat) (x13_2 : Bool), v13 = .bool x13_2 ∧ Aside0 (allen_Relation.j0 kq x13_2 a0_0 a0_1 a1_0 a1_1 = some (r1, r2)) ∧ Aside0 (kq ≤ k) ∧ Aside0 (wc.heap[gb102]? = some (.cells #[.int .i64 a0_0, .int .i64 a0_1] 23 (0, 0))) ∧ Aside0 (wc.heap[gb103]? = some (.cells #[.int .i64 a1_0, .int .i64 a1_1] 23 (0, 0))) ∧ Aside0 (Below w.heap.size w wc))
 case first =>
  have H := HC3.out
  clear HC3
  replace H := Option.bind_eq_some_iff.mp H
  obtain ⟨t104, A60, H⟩ := H
  replace H : (if t104 = true then ((period_Valid.f a1_0 a1_1).bind fun t105 => (allen_Relation.j0 k (!t105) a0_0 a0_1 a1_0 a1_1)) else (allen_Relation.j0 k true a0_0 a0_1 a1_0 a1_1)) = some (r1, r2) := H
  have A6 := Aside0.mk A60
  clear A60
  by_cases c7 : t104 = true
  ·subst c7
   have H1 : ((period_Valid.f a1_0 a1_1).bind fun t105 => (allen_Relation.j0 k (!t105) a0_0 a0_1 a1_0 a1_1)) = some (r1, r2) := by rw [if_pos rfl] at H; exact H
   clear H
   have H := H1
   clear H1
   replace H := Option.bind_eq_some_iff.mp H
   obtain ⟨t105, A80, H⟩ := H
   replace H : (allen_Relation.j0 k (!t105) a0_0 a0_1 a1_0 a1_1) = some (r1, r2) := H
   have A8 := Aside0.mk A80
   clear A80
   have H' := Aside0.mk H
   clear H
   have hnb9 := NB102_103.out
   have hnc9 := NB103_102.out
   have hcz10_0 : w5.cell? ⟨gb102, 0, none⟩ = some (.int .i64 a0_0) := (blk_cell BK102.out 0).trans rfl
   have hcz10_1 : w5.cell? ⟨gb102, 1, none⟩ = some (.int .i64 a0_1) := (blk_cell BK102.out 1).trans rfl
   have hfz10_0 := blk_frozen BK102.out 0
   have hfz10_1 := blk_frozen BK102.out 1
   go_wp2_with (first | ((with_reducible refine gate_callee (f := 31) rfl ?_); refine goesL_ (some 7) rfl rfl Try.func31 (by kernel_rfl) rfl #[.agg #[.int .i64 a0_0, .int .i64 a0_1]] rfl (by (try simp only [List.map_toArray, List.map_cons, List.map_nil]); first | done | rfl | (simp only [List.length_drop, List.length_take]; rfl)) ?_; (with_reducible refine (period_Valid.calls a0_0 a0_1 true _ A6.out).mono ?_); rintro e w11 ⟨rfl, hb⟩; refine ⟨_, rfl, ?_⟩; have n0_ := Aside0.mk (blk_below (g := gb102) (o := .cells #[.int .i64 a0_0, .int .i64 a0_1] 23 (0, 0)) (by (with_reducible repeat (first | refine blk_drewN ?_ _ | refine blk_drew ?_ | refine blk_alloc ?_ _)); exact BK102.out) hb); have n1_ := Aside0.mk (blk_below (g := gb103) (o := .cells #[.int .i64 a1_0, .int .i64 a1_1] 23 (0, 0)) (by (with_reducible repeat (first | refine blk_drewN ?_ _ | refine blk_drew ?_ | refine blk_alloc ?_ _)); exact BK103.out) hb); have n2_ := Aside0.mk (below_step (by repeat (first | (with_reducible first | exact HB.out | apply below_alloc | apply pw_below_drewN | apply below_drew1 | refine below_set ?_ GE102.out | refine below_set ?_ GE103.out) | exact HB.out)) hb); clear BK102; clear BK103; clear HB; have BK102 := n0_; have BK103 := n1_; have HB := n2_; clear n0_ n1_ n2_; (try clear hb); (try clear hb2); (try clear hk); (try clear hi); have hcz12_0 : w11.cell? ⟨gb103, 0, none⟩ = some (.int .i64 a1_0) := (blk_cell BK103.out 0).trans rfl; have hcz12_1 : w11.cell? ⟨gb103, 1, none⟩ = some (.int .i64 a1_1) := (blk_cell BK103.out 1).trans rfl; have hfz12_0 := blk_frozen BK103.out 0; have hfz12_1 := blk_frozen BK103.out 1) | (go_at_call 31; (with_reducible refine (period_Valid.calls a1_0 a1_1 t105 _ A8.out).mono ?_); rintro e w13 ⟨rfl, hb⟩; have n0_ := Aside0.mk (blk_below (g := gb102) (o := .cells #[.int .i64 a0_0, .int .i64 a0_1] 23 (0, 0)) (by (with_reducible repeat (first | refine blk_drewN ?_ _ | refine blk_drew ?_ | refine blk_alloc ?_ _)); exact BK102.out) hb); have n1_ := Aside0.mk (blk_below (g := gb103) (o := .cells #[.int .i64 a1_0, .int .i64 a1_1] 23 (0, 0)) (by (with_reducible repeat (first | refine blk_drewN ?_ _ | refine blk_drew ?_ | refine blk_alloc ?_ _)); exact BK103.out) hb); have n2_ := Aside0.mk (below_step (by repeat (first | (with_reducible first | exact HB.out | apply below_alloc | apply pw_below_drewN | apply below_drew1 | refine below_set ?_ GE102.out | refine below_set ?_ GE103.out) | exact HB.out)) hb); clear BK102; clear BK103; clear HB; have BK102 := n0_; have BK103 := n1_; have HB := n2_; clear n0_ n1_ n2_; (try clear hb); (try clear hb2); (try clear hk); (try clear hi)))
   go_meet
   case rel => exact ⟨_, (!t105), (by first | rfl | (simp; done) | (simp [*]; done)), H', ⟨by first | omega | exact Nat.le_refl _⟩, ⟨by (with_reducible repeat (first | refine blk_drewN ?_ _ | refine blk_drew ?_ | refine blk_alloc ?_ _)); exact BK102.out⟩, ⟨by (with_reducible repeat (first | refine blk_drewN ?_ _ | refine blk_drew ?_ | refine blk_alloc ?_ _)); exact BK103.out⟩, ⟨by repeat (first | (with_reducible first | exact HB.out | apply below_alloc | apply pw_below_drewN | apply below_drew1 | refine below_set ?_ GE102.out | refine below_set ?_ GE103.out) | exact HB.out)⟩⟩
  ·replace c7 := Bool.eq_false_iff.mpr c7
   subst c7
   have H1 : (allen_Relation.j0 k true a0_0 a0_1 a1_0 a1_1) = some (r1, r2) := by rw [if_neg (show ¬ (false = true) by decide)] at H; exact H
   clear H
   have H := H1
   clear H1
   have H' := Aside0.mk H
   clear H
   have hnb14 := NB102_103.out
   have hnc14 := NB103_102.out
   have hcz15_0 : w5.cell? ⟨gb102, 0, none⟩ = some (.int .i64 a0_0) := (blk_cell BK102.out 0).trans rfl
   have hcz15_1 : w5.cell? ⟨gb102, 1, none⟩ = some (.int .i64 a0_1) := (blk_cell BK102.out 1).trans rfl
   have hfz15_0 := blk_frozen BK102.out 0
   have hfz15_1 := blk_frozen BK102.out 1
   go_wp2_with (first | ((with_reducible refine gate_callee (f := 31) rfl ?_); refine goesL_ (some 7) rfl rfl Try.func31 (by kernel_rfl) rfl #[.agg #[.int .i64 a0_0, .int .i64 a0_1]] rfl (by (try simp only [List.map_toArray, List.map_cons, List.map_nil]); first | done | rfl | (simp only [List.length_drop, List.length_take]; rfl)) ?_; (with_reducible refine (period_Valid.calls a0_0 a0_1 false _ A6.out).mono ?_); rintro e w16 ⟨rfl, hb⟩; refine ⟨_, rfl, ?_⟩; have n0_ := Aside0.mk (blk_below (g := gb102) (o := .cells #[.int .i64 a0_0, .int .i64 a0_1] 23 (0, 0)) (by (with_reducible repeat (first | refine blk_drewN ?_ _ | refine blk_drew ?_ | refine blk_alloc ?_ _)); exact BK102.out) hb); have n1_ := Aside0.mk (blk_below (g := gb103) (o := .cells #[.int .i64 a1_0, .int .i64 a1_1] 23 (0, 0)) (by (with_reducible repeat (first | refine blk_drewN ?_ _ | refine blk_drew ?_ | refine blk_alloc ?_ _)); exact BK103.out) hb); have n2_ := Aside0.mk (below_step (by repeat (first | (with_reducible first | exact HB.out | apply below_alloc | apply pw_below_drewN | apply below_drew1 | refine below_set ?_ GE102.out | refine below_set ?_ GE103.out) | exact HB.out)) hb); clear BK102; clear BK103; clear HB; have BK102 := n0_; have BK103 := n1_; have HB := n2_; clear n0_ n1_ n2_; (try clear hb); (try clear hb2); (try clear hk); (try clear hi)))
   go_meet
   case rel => exact ⟨_, (true), (by first | rfl | (simp; done) | (simp [*]; done)), H', ⟨by first | omega | exact Nat.le_refl _⟩, ⟨by (with_reducible repeat (first | refine blk_drewN ?_ _ | refine blk_drew ?_ | refine blk_alloc ?_ _)); exact BK102.out⟩, ⟨by (with_reducible repeat (first | refine blk_drewN ?_ _ | refine blk_drew ?_ | refine blk_alloc ?_ _)); exact BK103.out⟩, ⟨by repeat (first | (with_reducible first | exact HB.out | apply below_alloc | apply pw_below_drewN | apply below_drew1 | refine below_set ?_ GE102.out | refine below_set ?_ GE103.out) | exact HB.out)⟩⟩
 case rest =>
  clear HC3
  try clear c1
  try clear p2
  try clear c3
  try clear c7
  try clear c9
  try clear c12
  try clear c14
  try clear hcz10_0
  try clear hcz10_1
  try clear hcz12_0
  try clear hcz12_1
  try clear hcz15_0
  try clear hcz15_1
  try clear hfz10_0
  try clear hfz10_1
  try clear hfz12_0
  try clear hfz12_1
  try clear hfz15_0
  try clear hfz15_1
  obtain ⟨kq, x13_2, rfl, HA, HJ2, BK102, BK103, HB⟩ := hcut
  cases kq with
  | zero => exact absurd HA.out (by simp [allen_Relation.j0])
  | succ kj2 =>
   have H := HA.out
   clear HA
   simp only [allen_Relation.j0] at H
   by_cases c17 : x13_2 = true
   ·subst c17
    have H1 : (some (0, false)) = some (r1, r2) := by rw [if_pos rfl] at H; exact H
    clear H
    have H := H1
    clear H1
    simp only [Option.some.injEq, Prod.mk.injEq] at H
    obtain ⟨rfl, rfl⟩ := H
    go_wp2
    go_ret2
    exact ⟨by first | rfl | (simp [errW_none, errW_some] <;> rfl) | (simp [*, errW_none, errW_some] <;> rfl), by repeat (first | (with_reducible first | exact HB.out | apply below_alloc | apply pw_below_drewN | apply below_drew1 | refine below_set ?_ GE102.out | refine below_set ?_ GE103.out) | exact HB.out)⟩
   ·replace c17 := Bool.eq_false_iff.mpr c17
    subst c17
    have H1 : (if a0_1 < a1_0 then (some (0, true)) else (if a0_1 = a1_0 then (some (1, true)) else (if a1_1 < a0_0 then (some (12, true)) else (if a1_1 = a0_0 then (some (11, true)) else (if (a0_0 == a1_0 && (a0_1 == a1_1)) = true then (some (6, true)) else (if a0_0 = a1_0 then (allen_Relation.j1 kj2 (decide (a0_1 < a1_1)) a0_0 a0_1 a1_0 a1_1) else (allen_Relation.j1 kj2 false a0_0 a0_1 a1_0 a1_1))))))) = some (r1, r2) := by rw [if_neg (show ¬ (false = true) by decide)] at H; exact H
    clear H
    have H := H1
    clear H1
    by_cases c18 : a0_1 < a1_0
    ·rw [if_pos c18] at H
     have c18b0 : decide (a0_1 < a1_0) = true := decide_eq_true c18
     clear c18
     simp only [Option.some.injEq, Prod.mk.injEq] at H
     obtain ⟨rfl, rfl⟩ := H
     have hnb19 := NB102_103.out
     have hnc19 := NB103_102.out
     have hcz20_0 : wc.cell? ⟨gb102, 0, none⟩ = some (.int .i64 a0_0) := (blk_cell BK102.out 0).trans rfl
     have hcz20_1 : wc.cell? ⟨gb102, 1, none⟩ = some (.int .i64 a0_1) := (blk_cell BK102.out 1).trans rfl
     have hfz20_0 := blk_frozen BK102.out 0
     have hfz20_1 := blk_frozen BK102.out 1
     have hcz21_0 : wc.cell? ⟨gb103, 0, none⟩ = some (.int .i64 a1_0) := (blk_cell BK103.out 0).trans rfl
     have hcz21_1 : wc.cell? ⟨gb103, 1, none⟩ = some (.int .i64 a1_1) := (blk_cell BK103.out 1).trans rfl
     have hfz21_0 := blk_frozen BK103.out 0
     have hfz21_1 := blk_frozen BK103.out 1
     go_wp2
     go_ret2
     exact ⟨by first | rfl | (simp [errW_none, errW_some] <;> rfl) | (simp [*, errW_none, errW_some] <;> rfl), by repeat (first | (with_reducible first | exact HB.out | apply below_alloc | apply pw_below_drewN | apply below_drew1 | refine below_set ?_ GE102.out | refine below_set ?_ GE103.out) | exact HB.out)⟩
    ·rw [if_neg c18] at H
     have c18b0 : decide (a0_1 < a1_0) = false := decide_eq_false c18
     clear c18
     by_cases c22 : a0_1 = a1_0
     ·rw [if_pos c22] at H
      have c22b0 : (a0_1 == a1_0) = true := beq_iff_eq.mpr c22
      have c22b1 : (a0_1 != a1_0) = false := bne_eq_false_iff_eq.mpr c22
      clear c22
      simp only [Option.some.injEq, Prod.mk.injEq] at H
      obtain ⟨rfl, rfl⟩ := H
      have hnb23 := NB102_103.out
      have hnc23 := NB103_102.out
      have hcz24_0 : wc.cell? ⟨gb102, 0, none⟩ = some (.int .i64 a0_0) := (blk_cell BK102.out 0).trans rfl
      have hcz24_1 : wc.cell? ⟨gb102, 1, none⟩ = some (.int .i64 a0_1) := (blk_cell BK102.out 1).trans rfl
      have hfz24_0 := blk_frozen BK102.out 0
      have hfz24_1 := blk_frozen BK102.out 1
      have hcz25_0 : wc.cell? ⟨gb103, 0, none⟩ = some (.int .i64 a1_0) := (blk_cell BK103.out 0).trans rfl
      have hcz25_1 : wc.cell? ⟨gb103, 1, none⟩ = some (.int .i64 a1_1) := (blk_cell BK103.out 1).trans rfl
      have hfz25_0 := blk_frozen BK103.out 0
      have hfz25_1 := blk_frozen BK103.out 1
      go_wp2
      go_ret2
      exact ⟨by first | rfl | (simp [errW_none, errW_some] <;> rfl) | (simp [*, errW_none, errW_some] <;> rfl), by repeat (first | (with_reducible first | exact HB.out | apply below_alloc | apply pw_below_drewN | apply below_drew1 | refine below_set ?_ GE102.out | refine below_set ?_ GE103.out) | exact HB.out)⟩
     ·rw [if_neg c22] at H
      have c22b0 : (a0_1 == a1_0) = false := beq_eq_false_iff_ne.mpr c22
      have c22b1 : (a0_1 != a1_0) = true := bne_iff_ne.mpr c22
      by_cases c26 : a1_1 < a0_0
      ·rw [if_pos c26] at H
       have c26b0 : decide (a1_1 < a0_0) = true := decide_eq_true c26
       clear c26
       simp only [Option.some.injEq, Prod.mk.injEq] at H
       obtain ⟨rfl, rfl⟩ := H
       have hnb27 := NB102_103.out
       have hnc27 := NB103_102.out
       have hcz28_0 : wc.cell? ⟨gb102, 0, none⟩ = some (.int .i64 a0_0) := (blk_cell BK102.out 0).trans rfl
       have hcz28_1 : wc.cell? ⟨gb102, 1, none⟩ = some (.int .i64 a0_1) := (blk_cell BK102.out 1).trans rfl
       have hfz28_0 := blk_frozen BK102.out 0
       have hfz28_1 := blk_frozen BK102.out 1
       have hcz29_0 : wc.cell? ⟨gb103, 0, none⟩ = some (.int .i64 a1_0) := (blk_cell BK103.out 0).trans rfl
       have hcz29_1 : wc.cell? ⟨gb103, 1, none⟩ = some (.int .i64 a1_1) := (blk_cell BK103.out 1).trans rfl
       have hfz29_0 := blk_frozen BK103.out 0
       have hfz29_1 := blk_frozen BK103.out 1
       go_wp2
       go_ret2
       exact ⟨by first | rfl | (simp [errW_none, errW_some] <;> rfl) | (simp [*, errW_none, errW_some] <;> rfl), by repeat (first | (with_reducible first | exact HB.out | apply below_alloc | apply pw_below_drewN | apply below_drew1 | refine below_set ?_ GE102.out | refine below_set ?_ GE103.out) | exact HB.out)⟩
      ·rw [if_neg c26] at H
       have c26b0 : decide (a1_1 < a0_0) = false := decide_eq_false c26
       clear c26
       by_cases c30 : a1_1 = a0_0
       ·rw [if_pos c30] at H
        have c30b0 : (a1_1 == a0_0) = true := beq_iff_eq.mpr c30
        have c30b1 : (a1_1 != a0_0) = false := bne_eq_false_iff_eq.mpr c30
        clear c30
        simp only [Option.some.injEq, Prod.mk.injEq] at H
        obtain ⟨rfl, rfl⟩ := H
        have hnb31 := NB102_103.out
        have hnc31 := NB103_102.out
        have hcz32_0 : wc.cell? ⟨gb102, 0, none⟩ = some (.int .i64 a0_0) := (blk_cell BK102.out 0).trans rfl
        have hcz32_1 : wc.cell? ⟨gb102, 1, none⟩ = some (.int .i64 a0_1) := (blk_cell BK102.out 1).trans rfl
        have hfz32_0 := blk_frozen BK102.out 0
        have hfz32_1 := blk_frozen BK102.out 1
        have hcz33_0 : wc.cell? ⟨gb103, 0, none⟩ = some (.int .i64 a1_0) := (blk_cell BK103.out 0).trans rfl
        have hcz33_1 : wc.cell? ⟨gb103, 1, none⟩ = some (.int .i64 a1_1) := (blk_cell BK103.out 1).trans rfl
        have hfz33_0 := blk_frozen BK103.out 0
        have hfz33_1 := blk_frozen BK103.out 1
        go_wp2
        go_ret2
        exact ⟨by first | rfl | (simp [errW_none, errW_some] <;> rfl) | (simp [*, errW_none, errW_some] <;> rfl), by repeat (first | (with_reducible first | exact HB.out | apply below_alloc | apply pw_below_drewN | apply below_drew1 | refine below_set ?_ GE102.out | refine below_set ?_ GE103.out) | exact HB.out)⟩
       ·rw [if_neg c30] at H
        have c30b0 : (a1_1 == a0_0) = false := beq_eq_false_iff_ne.mpr c30
        have c30b1 : (a1_1 != a0_0) = true := bne_iff_ne.mpr c30
        by_cases c34 : (a0_0 == a1_0 && (a0_1 == a1_1)) = true
        ·rw [if_pos c34] at H
         have c34b0 : (a0_0 == a1_0 && (a0_1 == a1_1)) = true := c34
         (try (have c34b1 : decide (a0_0 = a1_0 && (a0_1 == a1_1)) = true := by simpa using c34))
         (try (have c34b2 : (a0_0 == a1_0 && (a0_1 == a1_1)) = true := by simpa using c34))
         clear c34
         simp only [Option.some.injEq, Prod.mk.injEq] at H
         obtain ⟨rfl, rfl⟩ := H
         have hnb35 := NB102_103.out
         have hnc35 := NB103_102.out
         have hcz36_0 : wc.cell? ⟨gb102, 0, none⟩ = some (.int .i64 a0_0) := (blk_cell BK102.out 0).trans rfl
         have hcz36_1 : wc.cell? ⟨gb102, 1, none⟩ = some (.int .i64 a0_1) := (blk_cell BK102.out 1).trans rfl
         have hfz36_0 := blk_frozen BK102.out 0
         have hfz36_1 := blk_frozen BK102.out 1
         have hcz37_0 : wc.cell? ⟨gb103, 0, none⟩ = some (.int .i64 a1_0) := (blk_cell BK103.out 0).trans rfl
         have hcz37_1 : wc.cell? ⟨gb103, 1, none⟩ = some (.int .i64 a1_1) := (blk_cell BK103.out 1).trans rfl
         have hfz37_0 := blk_frozen BK103.out 0
         have hfz37_1 := blk_frozen BK103.out 1
         go_wp2
         go_ret2
         exact ⟨by first | rfl | (simp [errW_none, errW_some] <;> rfl) | (simp [*, errW_none, errW_some] <;> rfl), by repeat (first | (with_reducible first | exact HB.out | apply below_alloc | apply pw_below_drewN | apply below_drew1 | refine below_set ?_ GE102.out | refine below_set ?_ GE103.out) | exact HB.out)⟩
        ·rw [if_neg c34] at H
         have c34b0 : (a0_0 == a1_0 && (a0_1 == a1_1)) = false := by simpa using c34
         (try (have c34b1 : decide (a0_0 = a1_0 && (a0_1 == a1_1)) = false := by simpa using c34))
         (try (have c34b2 : (a0_0 == a1_0 && (a0_1 == a1_1)) = false := by simpa using c34))
         (try (have c34b3 : ¬ (a0_0 = a1_0 && (a0_1 == a1_1)) := by simpa using c34))
         clear c34
         have HC38 := Aside0.mk H
         clear H
         have hnb39 := NB102_103.out
         have hnc39 := NB103_102.out
         have hcz40_0 : wc.cell? ⟨gb102, 0, none⟩ = some (.int .i64 a0_0) := (blk_cell BK102.out 0).trans rfl
         have hcz40_1 : wc.cell? ⟨gb102, 1, none⟩ = some (.int .i64 a0_1) := (blk_cell BK102.out 1).trans rfl
         have hfz40_0 := blk_frozen BK102.out 0
         have hfz40_1 := blk_frozen BK102.out 1
         have hcz41_0 : wc.cell? ⟨gb103, 0, none⟩ = some (.int .i64 a1_0) := (blk_cell BK103.out 0).trans rfl
         have hcz41_1 : wc.cell? ⟨gb103, 1, none⟩ = some (.int .i64 a1_1) := (blk_cell BK103.out 1).trans rfl
         have hfz41_0 := blk_frozen BK103.out 0
         have hfz41_1 := blk_frozen BK103.out 1
         go_upto_region 13 with (fail)
         go_cut [42] (fun v42 wc => ∃ (kq : Nat) (x42_37 : Bool), v42 = .bool x42_37 ∧ Aside0 (allen_Relation.j1 kq x42_37 a0_0 a0_1 a1_0 a1_1 = some (r1, r2)) ∧ Aside0 (kq ≤ kj2) ∧ Aside0 (wc.heap[gb102]? = some (.cells #[.int .i64 a0_0, .int .i64 a0_1] 23 (0, 0))) ∧ Aside0 (wc.heap[gb103]? = some (.cells #[.int .i64 a1_0, .int .i64 a1_1] 23 (0, 0))) ∧ Aside0 (Below w.heap.size w wc))
         case first =>
          have H := HC38.out
          clear HC38
          by_cases c42 : a0_0 = a1_0
          ·rw [if_pos c42] at H
           have c42b0 : (a0_0 == a1_0) = true := beq_iff_eq.mpr c42
           have c42b1 : (a0_0 != a1_0) = false := bne_eq_false_iff_eq.mpr c42
           clear c42
           (first | rw [c42b0] | (simp only [i64_w, i32_w]; rw [c42b0]) | skip)
           have H' := Aside0.mk H
           clear H
           have hnb43 := NB102_103.out
           have hnc43 := NB103_102.out
           have hcz44_0 : wc.cell? ⟨gb102, 0, none⟩ = some (.int .i64 a0_0) := (blk_cell BK102.out 0).trans rfl
           have hcz44_1 : wc.cell? ⟨gb102, 1, none⟩ = some (.int .i64 a0_1) := (blk_cell BK102.out 1).trans rfl
           have hfz44_0 := blk_frozen BK102.out 0
           have hfz44_1 := blk_frozen BK102.out 1
           have hcz45_0 : wc.cell? ⟨gb103, 0, none⟩ = some (.int .i64 a1_0) := (blk_cell BK103.out 0).trans rfl
           have hcz45_1 : wc.cell? ⟨gb103, 1, none⟩ = some (.int .i64 a1_1) := (blk_cell BK103.out 1).trans rfl
           have hfz45_0 := blk_frozen BK103.out 0
           have hfz45_1 := blk_frozen BK103.out 1
           go_wp2
           go_meet
           case rel => exact ⟨_, (decide (a0_1 < a1_1)), (by first | rfl | (simp; done) | (simp [*]; done)), H', ⟨by have := HJ2.out; first | omega | exact Nat.le_refl _⟩, ⟨by (with_reducible repeat (first | refine blk_drewN ?_ _ | refine blk_drew ?_ | refine blk_alloc ?_ _)); exact BK102.out⟩, ⟨by (with_reducible repeat (first | refine blk_drewN ?_ _ | refine blk_drew ?_ | refine blk_alloc ?_ _)); exact BK103.out⟩, ⟨by repeat (first | (with_reducible first | exact HB.out | apply below_alloc | apply pw_below_drewN | apply below_drew1 | refine below_set ?_ GE102.out | refine below_set ?_ GE103.out) | exact HB.out)⟩⟩
          ·rw [if_neg c42] at H
           have c42b0 : (a0_0 == a1_0) = false := beq_eq_false_iff_ne.mpr c42
           have c42b1 : (a0_0 != a1_0) = true := bne_iff_ne.mpr c42
           (first | rw [c42b0] | (simp only [i64_w, i32_w]; rw [c42b0]) | skip)
           have H' := Aside0.mk H
           clear H
           have hnb46 := NB102_103.out
           have hnc46 := NB103_102.out
           have hcz47_0 : wc.cell? ⟨gb102, 0, none⟩ = some (.int .i64 a0_0) := (blk_cell BK102.out 0).trans rfl
           have hcz47_1 : wc.cell? ⟨gb102, 1, none⟩ = some (.int .i64 a0_1) := (blk_cell BK102.out 1).trans rfl
           have hfz47_0 := blk_frozen BK102.out 0
           have hfz47_1 := blk_frozen BK102.out 1
           have hcz48_0 : wc.cell? ⟨gb103, 0, none⟩ = some (.int .i64 a1_0) := (blk_cell BK103.out 0).trans rfl
           have hcz48_1 : wc.cell? ⟨gb103, 1, none⟩ = some (.int .i64 a1_1) := (blk_cell BK103.out 1).trans rfl
           have hfz48_0 := blk_frozen BK103.out 0
           have hfz48_1 := blk_frozen BK103.out 1
           go_wp2
           go_meet
           case rel => exact ⟨_, (false), (by first | rfl | (simp; done) | (simp [*]; done)), H', ⟨by have := HJ2.out; first | omega | exact Nat.le_refl _⟩, ⟨by (with_reducible repeat (first | refine blk_drewN ?_ _ | refine blk_drew ?_ | refine blk_alloc ?_ _)); exact BK102.out⟩, ⟨by (with_reducible repeat (first | refine blk_drewN ?_ _ | refine blk_drew ?_ | refine blk_alloc ?_ _)); exact BK103.out⟩, ⟨by repeat (first | (with_reducible first | exact HB.out | apply below_alloc | apply pw_below_drewN | apply below_drew1 | refine below_set ?_ GE102.out | refine below_set ?_ GE103.out) | exact HB.out)⟩⟩
         case rest =>
          clear HC38
          try clear c1
          try clear c2
          try clear p2
          try clear c3
          try clear c4
          try clear c7
          try clear c9
          try clear c12
          try clear c14
          try clear c17
          try clear c18
          try clear c18b0
          try clear c19
          try clear c22
          try clear c22b0
          try clear c22b1
          try clear c23
          try clear c26
          try clear c26b0
          try clear c27
          try clear c30
          try clear c30b0
          try clear c30b1
          try clear c31
          try clear c34
          try clear c34b0
          try clear c34b1
          try clear c34b2
          try clear c35
          try clear c39
          try clear c42
          try clear c42b0
          try clear c42b1
          try clear c43
          try clear c46
          try clear hcz10_0
          try clear hcz10_1
          try clear hcz12_0
          try clear hcz12_1
          try clear hcz15_0
          try clear hcz15_1
          try clear hcz20_0
          try clear hcz20_1
          try clear hcz21_0
          try clear hcz21_1
          try clear hcz24_0
          try clear hcz24_1
          try clear hcz25_0
          try clear hcz25_1
          try clear hcz28_0
          try clear hcz28_1
          try clear hcz29_0
          try clear hcz29_1
          try clear hcz32_0
          try clear hcz32_1
          try clear hcz33_0
          try clear hcz33_1
          try clear hcz36_0
          try clear hcz36_1
          try clear hcz37_0
          try clear hcz37_1
          try clear hcz40_0
          try clear hcz40_1
          try clear hcz41_0
          try clear hcz41_1
          try clear hcz44_0
          try clear hcz44_1
          try clear hcz45_0
          try clear hcz45_1
          try clear hcz47_0
          try clear hcz47_1
          try clear hcz48_0
          try clear hcz48_1
          try clear hfz10_0
          try clear hfz10_1
          try clear hfz12_0
          try clear hfz12_1
          try clear hfz15_0
          try clear hfz15_1
          try clear hfz20_0
          try clear hfz20_1
          try clear hfz21_0
          try clear hfz21_1
          try clear hfz24_0
          try clear hfz24_1
          try clear hfz25_0
          try clear hfz25_1
          try clear hfz28_0
          try clear hfz28_1
          try clear hfz29_0
          try clear hfz29_1
          try clear hfz32_0
          try clear hfz32_1
          try clear hfz33_0
          try clear hfz33_1
          try clear hfz36_0
          try clear hfz36_1
          try clear hfz37_0
          try clear hfz37_1
          try clear hfz40_0
          try clear hfz40_1
          try clear hfz41_0
          try clear hfz41_1
          try clear hfz44_0
          try clear hfz44_1
          try clear hfz45_0
          try clear hfz45_1
          try clear hfz47_0
          try clear hfz47_1
          try clear hfz48_0
          try clear hfz48_1
          try clear p2
          obtain ⟨kq, x42_37, rfl, HA, HJ37, BK102, BK103, HB⟩ := hcut
          cases kq with
          | zero => exact absurd HA.out (by simp [allen_Relation.j1])
          | succ kj37 =>
           have H := HA.out
           clear HA
           simp only [allen_Relation.j1] at H
           by_cases c49 : x42_37 = true
           ·subst c49
            have H1 : (some (3, true)) = some (r1, r2) := by rw [if_pos rfl] at H; exact H
            clear H
            have H := H1
            clear H1
            simp only [Option.some.injEq, Prod.mk.injEq] at H
            obtain ⟨rfl, rfl⟩ := H
            go_wp2
            go_ret2
            exact ⟨by first | rfl | (simp [errW_none, errW_some] <;> rfl) | (simp [*, errW_none, errW_some] <;> rfl), by repeat (first | (with_reducible first | exact HB.out | apply below_alloc | apply pw_below_drewN | apply below_drew1 | refine below_set ?_ GE102.out | refine below_set ?_ GE103.out) | exact HB.out)⟩
           ·replace c49 := Bool.eq_false_iff.mpr c49
            subst c49
            have H1 : (if a0_0 = a1_0 then (some (9, true)) else (if a0_1 = a1_1 then (allen_Relation.j2 kj37 (decide (a0_0 > a1_0)) a0_0 a0_1 a1_0 a1_1) else (allen_Relation.j2 kj37 false a0_0 a0_1 a1_0 a1_1))) = some (r1, r2) := by rw [if_neg (show ¬ (false = true) by decide)] at H; exact H
            clear H
            have H := H1
            clear H1
            by_cases c50 : a0_0 = a1_0
            ·rw [if_pos c50] at H
             have c50b0 : (a0_0 == a1_0) = true := beq_iff_eq.mpr c50
             have c50b1 : (a0_0 != a1_0) = false := bne_eq_false_iff_eq.mpr c50
             clear c50
             simp only [Option.some.injEq, Prod.mk.injEq] at H
             obtain ⟨rfl, rfl⟩ := H
             have hnb51 := NB102_103.out
             have hnc51 := NB103_102.out
             have hcz52_0 : wc.cell? ⟨gb102, 0, none⟩ = some (.int .i64 a0_0) := (blk_cell BK102.out 0).trans rfl
             have hcz52_1 : wc.cell? ⟨gb102, 1, none⟩ = some (.int .i64 a0_1) := (blk_cell BK102.out 1).trans rfl
             have hfz52_0 := blk_frozen BK102.out 0
             have hfz52_1 := blk_frozen BK102.out 1
             have hcz53_0 : wc.cell? ⟨gb103, 0, none⟩ = some (.int .i64 a1_0) := (blk_cell BK103.out 0).trans rfl
             have hcz53_1 : wc.cell? ⟨gb103, 1, none⟩ = some (.int .i64 a1_1) := (blk_cell BK103.out 1).trans rfl
             have hfz53_0 := blk_frozen BK103.out 0
             have hfz53_1 := blk_frozen BK103.out 1
             go_wp2
             go_ret2
             exact ⟨by first | rfl | (simp [errW_none, errW_some] <;> rfl) | (simp [*, errW_none, errW_some] <;> rfl), by repeat (first | (with_reducible first | exact HB.out | apply below_alloc | apply pw_below_drewN | apply below_drew1 | refine below_set ?_ GE102.out | refine below_set ?_ GE103.out) | exact HB.out)⟩
            ·rw [if_neg c50] at H
             have c50b0 : (a0_0 == a1_0) = false := beq_eq_false_iff_ne.mpr c50
             have c50b1 : (a0_0 != a1_0) = true := bne_iff_ne.mpr c50
             have HC54 := Aside0.mk H
             clear H
             have hnb55 := NB102_103.out
             have hnc55 := NB103_102.out
             have hcz56_0 : wc.cell? ⟨gb102, 0, none⟩ = some (.int .i64 a0_0) := (blk_cell BK102.out 0).trans rfl
             have hcz56_1 : wc.cell? ⟨gb102, 1, none⟩ = some (.int .i64 a0_1) := (blk_cell BK102.out 1).trans rfl
             have hfz56_0 := blk_frozen BK102.out 0
             have hfz56_1 := blk_frozen BK102.out 1
             have hcz57_0 : wc.cell? ⟨gb103, 0, none⟩ = some (.int .i64 a1_0) := (blk_cell BK103.out 0).trans rfl
             have hcz57_1 : wc.cell? ⟨gb103, 1, none⟩ = some (.int .i64 a1_1) := (blk_cell BK103.out 1).trans rfl
             have hfz57_0 := blk_frozen BK103.out 0
             have hfz57_1 := blk_frozen BK103.out 1
             go_upto_region 17 with (fail)
             go_cut [61] (fun v61 wc => ∃ (kq : Nat) (x61_53 : Bool), v61 = .bool x61_53 ∧ Aside0 (allen_Relation.j2 kq x61_53 a0_0 a0_1 a1_0 a1_1 = some (r1, r2)) ∧ Aside0 (kq ≤ kj37) ∧ Aside0 (wc.heap[gb102]? = some (.cells #[.int .i64 a0_0, .int .i64 a0_1] 23 (0, 0))) ∧ Aside0 (wc.heap[gb103]? = some (.cells #[.int .i64 a1_0, .int .i64 a1_1] 23 (0, 0))) ∧ Aside0 (Below w.heap.size w wc))
             case first =>
              have H := HC54.out
              clear HC54
              by_cases c58 : a0_1 = a1_1
              ·rw [if_pos c58] at H
               have c58b0 : (a0_1 == a1_1) = true := beq_iff_eq.mpr c58
               have c58b1 : (a0_1 != a1_1) = false := bne_eq_false_iff_eq.mpr c58
               clear c58
               (first | rw [c58b0] | (simp only [i64_w, i32_w]; rw [c58b0]) | skip)
               have H' := Aside0.mk H
               clear H
               have hnb59 := NB102_103.out
               have hnc59 := NB103_102.out
               have hcz60_0 : wc.cell? ⟨gb102, 0, none⟩ = some (.int .i64 a0_0) := (blk_cell BK102.out 0).trans rfl
               have hcz60_1 : wc.cell? ⟨gb102, 1, none⟩ = some (.int .i64 a0_1) := (blk_cell BK102.out 1).trans rfl
               have hfz60_0 := blk_frozen BK102.out 0
               have hfz60_1 := blk_frozen BK102.out 1
               have hcz61_0 : wc.cell? ⟨gb103, 0, none⟩ = some (.int .i64 a1_0) := (blk_cell BK103.out 0).trans rfl
               have hcz61_1 : wc.cell? ⟨gb103, 1, none⟩ = some (.int .i64 a1_1) := (blk_cell BK103.out 1).trans rfl
               have hfz61_0 := blk_frozen BK103.out 0
               have hfz61_1 := blk_frozen BK103.out 1
               go_wp2
               go_meet
               case rel => exact ⟨_, (decide (a0_0 > a1_0)), (by first | rfl | (simp; done) | (simp [*]; done)), H', ⟨by have := HJ2.out; have := HJ37.out; first | omega | exact Nat.le_refl _⟩, ⟨by (with_reducible repeat (first | refine blk_drewN ?_ _ | refine blk_drew ?_ | refine blk_alloc ?_ _)); exact BK102.out⟩, ⟨by (with_reducible repeat (first | refine blk_drewN ?_ _ | refine blk_drew ?_ | refine blk_alloc ?_ _)); exact BK103.out⟩, ⟨by repeat (first | (with_reducible first | exact HB.out | apply below_alloc | apply pw_below_drewN | apply below_drew1 | refine below_set ?_ GE102.out | refine below_set ?_ GE103.out) | exact HB.out)⟩⟩
              ·rw [if_neg c58] at H
               have c58b0 : (a0_1 == a1_1) = false := beq_eq_false_iff_ne.mpr c58
               have c58b1 : (a0_1 != a1_1) = true := bne_iff_ne.mpr c58
               (first | rw [c58b0] | (simp only [i64_w, i32_w]; rw [c58b0]) | skip)
               have H' := Aside0.mk H
               clear H
               have hnb62 := NB102_103.out
               have hnc62 := NB103_102.out
               have hcz63_0 : wc.cell? ⟨gb102, 0, none⟩ = some (.int .i64 a0_0) := (blk_cell BK102.out 0).trans rfl
               have hcz63_1 : wc.cell? ⟨gb102, 1, none⟩ = some (.int .i64 a0_1) := (blk_cell BK102.out 1).trans rfl
               have hfz63_0 := blk_frozen BK102.out 0
               have hfz63_1 := blk_frozen BK102.out 1
               have hcz64_0 : wc.cell? ⟨gb103, 0, none⟩ = some (.int .i64 a1_0) := (blk_cell BK103.out 0).trans rfl
               have hcz64_1 : wc.cell? ⟨gb103, 1, none⟩ = some (.int .i64 a1_1) := (blk_cell BK103.out 1).trans rfl
               have hfz64_0 := blk_frozen BK103.out 0
               have hfz64_1 := blk_frozen BK103.out 1
               go_wp2
               go_meet
               case rel => exact ⟨_, (false), (by first | rfl | (simp; done) | (simp [*]; done)), H', ⟨by have := HJ2.out; have := HJ37.out; first | omega | exact Nat.le_refl _⟩, ⟨by (with_reducible repeat (first | refine blk_drewN ?_ _ | refine blk_drew ?_ | refine blk_alloc ?_ _)); exact BK102.out⟩, ⟨by (with_reducible repeat (first | refine blk_drewN ?_ _ | refine blk_drew ?_ | refine blk_alloc ?_ _)); exact BK103.out⟩, ⟨by repeat (first | (with_reducible first | exact HB.out | apply below_alloc | apply pw_below_drewN | apply below_drew1 | refine below_set ?_ GE102.out | refine below_set ?_ GE103.out) | exact HB.out)⟩⟩
             case rest =>
              clear HC54
              try clear c1
              try clear c2
              try clear p2
              try clear c3
              try clear c4
              try clear c5
              try clear c6
              try clear c7
              try clear c9
              try clear c12
              try clear c14
              try clear c17
              try clear c18
              try clear c18b0
              try clear c19
              try clear c22
              try clear c22b0
              try clear c22b1
              try clear c23
              try clear c26
              try clear c26b0
              try clear c27
              try clear c30
              try clear c30b0
              try clear c30b1
              try clear c31
              try clear c34
              try clear c34b0
              try clear c34b1
              try clear c34b2
              try clear c35
              try clear c39
              try clear c42
              try clear c42b0
              try clear c42b1
              try clear c43
              try clear c46
              try clear c49
              try clear c50
              try clear c50b0
              try clear c50b1
              try clear c51
              try clear c55
              try clear c58
              try clear c58b0
              try clear c58b1
              try clear c59
              try clear c62
              try clear hcz10_0
              try clear hcz10_1
              try clear hcz12_0
              try clear hcz12_1
              try clear hcz15_0
              try clear hcz15_1
              try clear hcz20_0
              try clear hcz20_1
              try clear hcz21_0
              try clear hcz21_1
              try clear hcz24_0
              try clear hcz24_1
              try clear hcz25_0
              try clear hcz25_1
              try clear hcz28_0
              try clear hcz28_1
              try clear hcz29_0
              try clear hcz29_1
              try clear hcz32_0
              try clear hcz32_1
              try clear hcz33_0
              try clear hcz33_1
              try clear hcz36_0
              try clear hcz36_1
              try clear hcz37_0
              try clear hcz37_1
              try clear hcz40_0
              try clear hcz40_1
              try clear hcz41_0
              try clear hcz41_1
              try clear hcz44_0
              try clear hcz44_1
              try clear hcz45_0
              try clear hcz45_1
              try clear hcz47_0
              try clear hcz47_1
              try clear hcz48_0
              try clear hcz48_1
              try clear hcz52_0
              try clear hcz52_1
              try clear hcz53_0
              try clear hcz53_1
              try clear hcz56_0
              try clear hcz56_1
              try clear hcz57_0
              try clear hcz57_1
              try clear hcz60_0
              try clear hcz60_1
              try clear hcz61_0
              try clear hcz61_1
              try clear hcz63_0
              try clear hcz63_1
              try clear hcz64_0
              try clear hcz64_1
              try clear hfz10_0
              try clear hfz10_1
              try clear hfz12_0
              try clear hfz12_1
              try clear hfz15_0
              try clear hfz15_1
              try clear hfz20_0
              try clear hfz20_1
              try clear hfz21_0
              try clear hfz21_1
              try clear hfz24_0
              try clear hfz24_1
              try clear hfz25_0
              try clear hfz25_1
              try clear hfz28_0
              try clear hfz28_1
              try clear hfz29_0
              try clear hfz29_1
              try clear hfz32_0
              try clear hfz32_1
              try clear hfz33_0
              try clear hfz33_1
              try clear hfz36_0
              try clear hfz36_1
              try clear hfz37_0
              try clear hfz37_1
              try clear hfz40_0
              try clear hfz40_1
              try clear hfz41_0
              try clear hfz41_1
              try clear hfz44_0
              try clear hfz44_1
              try clear hfz45_0
              try clear hfz45_1
              try clear hfz47_0
              try clear hfz47_1
              try clear hfz48_0
              try clear hfz48_1
              try clear hfz52_0
              try clear hfz52_1
              try clear hfz53_0
              try clear hfz53_1
              try clear hfz56_0
              try clear hfz56_1
              try clear hfz57_0
              try clear hfz57_1
              try clear hfz60_0
              try clear hfz60_1
              try clear hfz61_0
              try clear hfz61_1
              try clear hfz63_0
              try clear hfz63_1
              try clear hfz64_0
              try clear hfz64_1
              try clear p2
              obtain ⟨kq, x61_53, rfl, HA, HJ53, BK102, BK103, HB⟩ := hcut
              cases kq with
              | zero => exact absurd HA.out (by simp [allen_Relation.j2])
              | succ kj53 =>
               have H := HA.out
               clear HA
               simp only [allen_Relation.j2] at H
               by_cases c65 : x61_53 = true
               ·subst c65
                have H1 : (some (5, true)) = some (r1, r2) := by rw [if_pos rfl] at H; exact H
                clear H
                have H := H1
                clear H1
                simp only [Option.some.injEq, Prod.mk.injEq] at H
                obtain ⟨rfl, rfl⟩ := H
                go_wp2
                go_ret2
                exact ⟨by first | rfl | (simp [errW_none, errW_some] <;> rfl) | (simp [*, errW_none, errW_some] <;> rfl), by repeat (first | (with_reducible first | exact HB.out | apply below_alloc | apply pw_below_drewN | apply below_drew1 | refine below_set ?_ GE102.out | refine below_set ?_ GE103.out) | exact HB.out)⟩
               ·replace c65 := Bool.eq_false_iff.mpr c65
                subst c65
                have H1 : (if a0_1 = a1_1 then (some (7, true)) else (if a0_0 < a1_0 then (allen_Relation.j3 kj53 (decide (a1_1 < a0_1)) a0_0 a0_1 a1_0 a1_1) else (allen_Relation.j3 kj53 false a0_0 a0_1 a1_0 a1_1))) = some (r1, r2) := by rw [if_neg (show ¬ (false = true) by decide)] at H; exact H
                clear H
                have H := H1
                clear H1
                by_cases c66 : a0_1 = a1_1
                ·rw [if_pos c66] at H
                 have c66b0 : (a0_1 == a1_1) = true := beq_iff_eq.mpr c66
                 have c66b1 : (a0_1 != a1_1) = false := bne_eq_false_iff_eq.mpr c66
                 clear c66
                 simp only [Option.some.injEq, Prod.mk.injEq] at H
                 obtain ⟨rfl, rfl⟩ := H
                 have hnb67 := NB102_103.out
                 have hnc67 := NB103_102.out
                 have hcz68_0 : wc.cell? ⟨gb102, 0, none⟩ = some (.int .i64 a0_0) := (blk_cell BK102.out 0).trans rfl
                 have hcz68_1 : wc.cell? ⟨gb102, 1, none⟩ = some (.int .i64 a0_1) := (blk_cell BK102.out 1).trans rfl
                 have hfz68_0 := blk_frozen BK102.out 0
                 have hfz68_1 := blk_frozen BK102.out 1
                 have hcz69_0 : wc.cell? ⟨gb103, 0, none⟩ = some (.int .i64 a1_0) := (blk_cell BK103.out 0).trans rfl
                 have hcz69_1 : wc.cell? ⟨gb103, 1, none⟩ = some (.int .i64 a1_1) := (blk_cell BK103.out 1).trans rfl
                 have hfz69_0 := blk_frozen BK103.out 0
                 have hfz69_1 := blk_frozen BK103.out 1
                 go_wp2
                 go_ret2
                 exact ⟨by first | rfl | (simp [errW_none, errW_some] <;> rfl) | (simp [*, errW_none, errW_some] <;> rfl), by repeat (first | (with_reducible first | exact HB.out | apply below_alloc | apply pw_below_drewN | apply below_drew1 | refine below_set ?_ GE102.out | refine below_set ?_ GE103.out) | exact HB.out)⟩
                ·rw [if_neg c66] at H
                 have c66b0 : (a0_1 == a1_1) = false := beq_eq_false_iff_ne.mpr c66
                 have c66b1 : (a0_1 != a1_1) = true := bne_iff_ne.mpr c66
                 have HC70 := Aside0.mk H
                 clear H
                 have hnb71 := NB102_103.out
                 have hnc71 := NB103_102.out
                 have hcz72_0 : wc.cell? ⟨gb102, 0, none⟩ = some (.int .i64 a0_0) := (blk_cell BK102.out 0).trans rfl
                 have hcz72_1 : wc.cell? ⟨gb102, 1, none⟩ = some (.int .i64 a0_1) := (blk_cell BK102.out 1).trans rfl
                 have hfz72_0 := blk_frozen BK102.out 0
                 have hfz72_1 := blk_frozen BK102.out 1
                 have hcz73_0 : wc.cell? ⟨gb103, 0, none⟩ = some (.int .i64 a1_0) := (blk_cell BK103.out 0).trans rfl
                 have hcz73_1 : wc.cell? ⟨gb103, 1, none⟩ = some (.int .i64 a1_1) := (blk_cell BK103.out 1).trans rfl
                 have hfz73_0 := blk_frozen BK103.out 0
                 have hfz73_1 := blk_frozen BK103.out 1
                 go_upto_region 21 with (fail)
                 go_cut [80] (fun v80 wc => ∃ (kq : Nat) (x80_69 : Bool), v80 = .bool x80_69 ∧ Aside0 (allen_Relation.j3 kq x80_69 a0_0 a0_1 a1_0 a1_1 = some (r1, r2)) ∧ Aside0 (kq ≤ kj53) ∧ Aside0 (wc.heap[gb102]? = some (.cells #[.int .i64 a0_0, .int .i64 a0_1] 23 (0, 0))) ∧ Aside0 (wc.heap[gb103]? = some (.cells #[.int .i64 a1_0, .int .i64 a1_1] 23 (0, 0))) ∧ Aside0 (Below w.heap.size w wc))
                 case first =>
                  have H := HC70.out
                  clear HC70
                  by_cases c74 : a0_0 < a1_0
                  ·rw [if_pos c74] at H
                   have c74b0 : decide (a0_0 < a1_0) = true := decide_eq_true c74
                   clear c74
                   (first | rw [c74b0] | (simp only [i64_w, i32_w]; rw [c74b0]) | skip)
                   have H' := Aside0.mk H
                   clear H
                   have hnb75 := NB102_103.out
                   have hnc75 := NB103_102.out
                   have hcz76_0 : wc.cell? ⟨gb102, 0, none⟩ = some (.int .i64 a0_0) := (blk_cell BK102.out 0).trans rfl
                   have hcz76_1 : wc.cell? ⟨gb102, 1, none⟩ = some (.int .i64 a0_1) := (blk_cell BK102.out 1).trans rfl
                   have hfz76_0 := blk_frozen BK102.out 0
                   have hfz76_1 := blk_frozen BK102.out 1
                   have hcz77_0 : wc.cell? ⟨gb103, 0, none⟩ = some (.int .i64 a1_0) := (blk_cell BK103.out 0).trans rfl
                   have hcz77_1 : wc.cell? ⟨gb103, 1, none⟩ = some (.int .i64 a1_1) := (blk_cell BK103.out 1).trans rfl
                   have hfz77_0 := blk_frozen BK103.out 0
                   have hfz77_1 := blk_frozen BK103.out 1
                   go_wp2
                   go_meet
                   case rel => exact ⟨_, (decide (a1_1 < a0_1)), (by first | rfl | (simp; done) | (simp [*]; done)), H', ⟨by have := HJ2.out; have := HJ37.out; have := HJ53.out; first | omega | exact Nat.le_refl _⟩, ⟨by (with_reducible repeat (first | refine blk_drewN ?_ _ | refine blk_drew ?_ | refine blk_alloc ?_ _)); exact BK102.out⟩, ⟨by (with_reducible repeat (first | refine blk_drewN ?_ _ | refine blk_drew ?_ | refine blk_alloc ?_ _)); exact BK103.out⟩, ⟨by repeat (first | (with_reducible first | exact HB.out | apply below_alloc | apply pw_below_drewN | apply below_drew1 | refine below_set ?_ GE102.out | refine below_set ?_ GE103.out) | exact HB.out)⟩⟩
                  ·rw [if_neg c74] at H
                   have c74b0 : decide (a0_0 < a1_0) = false := decide_eq_false c74
                   clear c74
                   (first | rw [c74b0] | (simp only [i64_w, i32_w]; rw [c74b0]) | skip)
                   have H' := Aside0.mk H
                   clear H
                   have hnb78 := NB102_103.out
                   have hnc78 := NB103_102.out
                   have hcz79_0 : wc.cell? ⟨gb102, 0, none⟩ = some (.int .i64 a0_0) := (blk_cell BK102.out 0).trans rfl
                   have hcz79_1 : wc.cell? ⟨gb102, 1, none⟩ = some (.int .i64 a0_1) := (blk_cell BK102.out 1).trans rfl
                   have hfz79_0 := blk_frozen BK102.out 0
                   have hfz79_1 := blk_frozen BK102.out 1
                   have hcz80_0 : wc.cell? ⟨gb103, 0, none⟩ = some (.int .i64 a1_0) := (blk_cell BK103.out 0).trans rfl
                   have hcz80_1 : wc.cell? ⟨gb103, 1, none⟩ = some (.int .i64 a1_1) := (blk_cell BK103.out 1).trans rfl
                   have hfz80_0 := blk_frozen BK103.out 0
                   have hfz80_1 := blk_frozen BK103.out 1
                   go_wp2
                   go_meet
                   case rel => exact ⟨_, (false), (by first | rfl | (simp; done) | (simp [*]; done)), H', ⟨by have := HJ2.out; have := HJ37.out; have := HJ53.out; first | omega | exact Nat.le_refl _⟩, ⟨by (with_reducible repeat (first | refine blk_drewN ?_ _ | refine blk_drew ?_ | refine blk_alloc ?_ _)); exact BK102.out⟩, ⟨by (with_reducible repeat (first | refine blk_drewN ?_ _ | refine blk_drew ?_ | refine blk_alloc ?_ _)); exact BK103.out⟩, ⟨by repeat (first | (with_reducible first | exact HB.out | apply below_alloc | apply pw_below_drewN | apply below_drew1 | refine below_set ?_ GE102.out | refine below_set ?_ GE103.out) | exact HB.out)⟩⟩
                 case rest =>
                  clear HC70
                  try clear c1
                  try clear c2
                  try clear p2
                  try clear c3
                  try clear c4
                  try clear c5
                  try clear c6
                  try clear c7
                  try clear c9
                  try clear c12
                  try clear c14
                  try clear c17
                  try clear c18
                  try clear c18b0
                  try clear c19
                  try clear c22
                  try clear c22b0
                  try clear c22b1
                  try clear c23
                  try clear c26
                  try clear c26b0
                  try clear c27
                  try clear c30
                  try clear c30b0
                  try clear c30b1
                  try clear c31
                  try clear c34
                  try clear c34b0
                  try clear c34b1
                  try clear c34b2
                  try clear c35
                  try clear c39
                  try clear c42
                  try clear c42b0
                  try clear c42b1
                  try clear c43
                  try clear c46
                  try clear c49
                  try clear c50
                  try clear c50b0
                  try clear c50b1
                  try clear c51
                  try clear c55
                  try clear c58
                  try clear c58b0
                  try clear c58b1
                  try clear c59
                  try clear c62
                  try clear c65
                  try clear c66
                  try clear c66b0
                  try clear c66b1
                  try clear c67
                  try clear c71
                  try clear c74
                  try clear c74b0
                  try clear c75
                  try clear c78
                  try clear hcz10_0
                  try clear hcz10_1
                  try clear hcz12_0
                  try clear hcz12_1
                  try clear hcz15_0
                  try clear hcz15_1
                  try clear hcz20_0
                  try clear hcz20_1
                  try clear hcz21_0
                  try clear hcz21_1
                  try clear hcz24_0
                  try clear hcz24_1
                  try clear hcz25_0
                  try clear hcz25_1
                  try clear hcz28_0
                  try clear hcz28_1
                  try clear hcz29_0
                  try clear hcz29_1
                  try clear hcz32_0
                  try clear hcz32_1
                  try clear hcz33_0
                  try clear hcz33_1
                  try clear hcz36_0
                  try clear hcz36_1
                  try clear hcz37_0
                  try clear hcz37_1
                  try clear hcz40_0
                  try clear hcz40_1
                  try clear hcz41_0
                  try clear hcz41_1
                  try clear hcz44_0
                  try clear hcz44_1
                  try clear hcz45_0
                  try clear hcz45_1
                  try clear hcz47_0
                  try clear hcz47_1
                  try clear hcz48_0
                  try clear hcz48_1
                  try clear hcz52_0
                  try clear hcz52_1
                  try clear hcz53_0
                  try clear hcz53_1
                  try clear hcz56_0
                  try clear hcz56_1
                  try clear hcz57_0
                  try clear hcz57_1
                  try clear hcz60_0
                  try clear hcz60_1
                  try clear hcz61_0
                  try clear hcz61_1
                  try clear hcz63_0
                  try clear hcz63_1
                  try clear hcz64_0
                  try clear hcz64_1
                  try clear hcz68_0
                  try clear hcz68_1
                  try clear hcz69_0
                  try clear hcz69_1
                  try clear hcz72_0
                  try clear hcz72_1
                  try clear hcz73_0
                  try clear hcz73_1
                  try clear hcz76_0
                  try clear hcz76_1
                  try clear hcz77_0
                  try clear hcz77_1
                  try clear hcz79_0
                  try clear hcz79_1
                  try clear hcz80_0
                  try clear hcz80_1
                  try clear hfz10_0
                  try clear hfz10_1
                  try clear hfz12_0
                  try clear hfz12_1
                  try clear hfz15_0
                  try clear hfz15_1
                  try clear hfz20_0
                  try clear hfz20_1
                  try clear hfz21_0
                  try clear hfz21_1
                  try clear hfz24_0
                  try clear hfz24_1
                  try clear hfz25_0
                  try clear hfz25_1
                  try clear hfz28_0
                  try clear hfz28_1
                  try clear hfz29_0
                  try clear hfz29_1
                  try clear hfz32_0
                  try clear hfz32_1
                  try clear hfz33_0
                  try clear hfz33_1
                  try clear hfz36_0
                  try clear hfz36_1
                  try clear hfz37_0
                  try clear hfz37_1
                  try clear hfz40_0
                  try clear hfz40_1
                  try clear hfz41_0
                  try clear hfz41_1
                  try clear hfz44_0
                  try clear hfz44_1
                  try clear hfz45_0
                  try clear hfz45_1
                  try clear hfz47_0
                  try clear hfz47_1
                  try clear hfz48_0
                  try clear hfz48_1
                  try clear hfz52_0
                  try clear hfz52_1
                  try clear hfz53_0
                  try clear hfz53_1
                  try clear hfz56_0
                  try clear hfz56_1
                  try clear hfz57_0
                  try clear hfz57_1
                  try clear hfz60_0
                  try clear hfz60_1
                  try clear hfz61_0
                  try clear hfz61_1
                  try clear hfz63_0
                  try clear hfz63_1
                  try clear hfz64_0
                  try clear hfz64_1
                  try clear hfz68_0
                  try clear hfz68_1
                  try clear hfz69_0
                  try clear hfz69_1
                  try clear hfz72_0
                  try clear hfz72_1
                  try clear hfz73_0
                  try clear hfz73_1
                  try clear hfz76_0
                  try clear hfz76_1
                  try clear hfz77_0
                  try clear hfz77_1
                  try clear hfz79_0
                  try clear hfz79_1
                  try clear hfz80_0
                  try clear hfz80_1
                  try clear p2
                  obtain ⟨kq, x80_69, rfl, HA, HJ69, BK102, BK103, HB⟩ := hcut
                  cases kq with
                  | zero => exact absurd HA.out (by simp [allen_Relation.j3])
                  | succ kj69 =>
                   have H := HA.out
                   clear HA
                   simp only [allen_Relation.j3] at H
                   by_cases c81 : x80_69 = true
                   ·subst c81
                    have H1 : (some (8, true)) = some (r1, r2) := by rw [if_pos rfl] at H; exact H
                    clear H
                    have H := H1
                    clear H1
                    simp only [Option.some.injEq, Prod.mk.injEq] at H
                    obtain ⟨rfl, rfl⟩ := H
                    go_wp2
                    go_ret2
                    exact ⟨by first | rfl | (simp [errW_none, errW_some] <;> rfl) | (simp [*, errW_none, errW_some] <;> rfl), by repeat (first | (with_reducible first | exact HB.out | apply below_alloc | apply pw_below_drewN | apply below_drew1 | refine below_set ?_ GE102.out | refine below_set ?_ GE103.out) | exact HB.out)⟩
                   ·replace c81 := Bool.eq_false_iff.mpr c81
                    subst c81
                    have H1 : (if a1_0 < a0_0 then (allen_Relation.j4 kj69 (decide (a0_1 < a1_1)) a0_0 a0_1 a1_0 a1_1) else (allen_Relation.j4 kj69 false a0_0 a0_1 a1_0 a1_1)) = some (r1, r2) := by rw [if_neg (show ¬ (false = true) by decide)] at H; exact H
                    clear H
                    have H := H1
                    clear H1
                    have HC82 := Aside0.mk H
                    clear H
                    go_upto_region 23 with (fail)
                    go_cut [93] (fun v93 wc => ∃ (kq : Nat) (x93_81 : Bool), v93 = .bool x93_81 ∧ Aside0 (allen_Relation.j4 kq x93_81 a0_0 a0_1 a1_0 a1_1 = some (r1, r2)) ∧ Aside0 (kq ≤ kj69) ∧ Aside0 (wc.heap[gb102]? = some (.cells #[.int .i64 a0_0, .int .i64 a0_1] 23 (0, 0))) ∧ Aside0 (wc.heap[gb103]? = some (.cells #[.int .i64 a1_0, .int .i64 a1_1] 23 (0, 0))) ∧ Aside0 (Below w.heap.size w wc))
                    case first =>
                     have H := HC82.out
                     clear HC82
                     by_cases c83 : a1_0 < a0_0
                     ·rw [if_pos c83] at H
                      have c83b0 : decide (a1_0 < a0_0) = true := decide_eq_true c83
                      clear c83
                      (first | rw [c83b0] | (simp only [i64_w, i32_w]; rw [c83b0]) | skip)
                      have H' := Aside0.mk H
                      clear H
                      have hnb84 := NB103_102.out
                      have hnc84 := NB102_103.out
                      have hcz85_0 : wc.cell? ⟨gb103, 0, none⟩ = some (.int .i64 a1_0) := (blk_cell BK103.out 0).trans rfl
                      have hcz85_1 : wc.cell? ⟨gb103, 1, none⟩ = some (.int .i64 a1_1) := (blk_cell BK103.out 1).trans rfl
                      have hfz85_0 := blk_frozen BK103.out 0
                      have hfz85_1 := blk_frozen BK103.out 1
                      have hcz86_0 : wc.cell? ⟨gb102, 0, none⟩ = some (.int .i64 a0_0) := (blk_cell BK102.out 0).trans rfl
                      have hcz86_1 : wc.cell? ⟨gb102, 1, none⟩ = some (.int .i64 a0_1) := (blk_cell BK102.out 1).trans rfl
                      have hfz86_0 := blk_frozen BK102.out 0
                      have hfz86_1 := blk_frozen BK102.out 1
                      go_wp2
                      go_meet
                      case rel => exact ⟨_, (decide (a0_1 < a1_1)), (by first | rfl | (simp; done) | (simp [*]; done)), H', ⟨by have := HJ2.out; have := HJ37.out; have := HJ53.out; have := HJ69.out; first | omega | exact Nat.le_refl _⟩, ⟨by (with_reducible repeat (first | refine blk_drewN ?_ _ | refine blk_drew ?_ | refine blk_alloc ?_ _)); exact BK102.out⟩, ⟨by (with_reducible repeat (first | refine blk_drewN ?_ _ | refine blk_drew ?_ | refine blk_alloc ?_ _)); exact BK103.out⟩, ⟨by repeat (first | (with_reducible first | exact HB.out | apply below_alloc | apply pw_below_drewN | apply below_drew1 | refine below_set ?_ GE102.out | refine below_set ?_ GE103.out) | exact HB.out)⟩⟩
                     ·rw [if_neg c83] at H
                      have c83b0 : decide (a1_0 < a0_0) = false := decide_eq_false c83
                      clear c83
                      (first | rw [c83b0] | (simp only [i64_w, i32_w]; rw [c83b0]) | skip)
                      have H' := Aside0.mk H
                      clear H
                      have hnb87 := NB103_102.out
                      have hnc87 := NB102_103.out
                      have hcz88_0 : wc.cell? ⟨gb103, 0, none⟩ = some (.int .i64 a1_0) := (blk_cell BK103.out 0).trans rfl
                      have hcz88_1 : wc.cell? ⟨gb103, 1, none⟩ = some (.int .i64 a1_1) := (blk_cell BK103.out 1).trans rfl
                      have hfz88_0 := blk_frozen BK103.out 0
                      have hfz88_1 := blk_frozen BK103.out 1
                      have hcz89_0 : wc.cell? ⟨gb102, 0, none⟩ = some (.int .i64 a0_0) := (blk_cell BK102.out 0).trans rfl
                      have hcz89_1 : wc.cell? ⟨gb102, 1, none⟩ = some (.int .i64 a0_1) := (blk_cell BK102.out 1).trans rfl
                      have hfz89_0 := blk_frozen BK102.out 0
                      have hfz89_1 := blk_frozen BK102.out 1
                      go_wp2
                      go_meet
                      case rel => exact ⟨_, (false), (by first | rfl | (simp; done) | (simp [*]; done)), H', ⟨by have := HJ2.out; have := HJ37.out; have := HJ53.out; have := HJ69.out; first | omega | exact Nat.le_refl _⟩, ⟨by (with_reducible repeat (first | refine blk_drewN ?_ _ | refine blk_drew ?_ | refine blk_alloc ?_ _)); exact BK102.out⟩, ⟨by (with_reducible repeat (first | refine blk_drewN ?_ _ | refine blk_drew ?_ | refine blk_alloc ?_ _)); exact BK103.out⟩, ⟨by repeat (first | (with_reducible first | exact HB.out | apply below_alloc | apply pw_below_drewN | apply below_drew1 | refine below_set ?_ GE102.out | refine below_set ?_ GE103.out) | exact HB.out)⟩⟩
                    case rest =>
                     clear HC82
                     try clear c1
                     try clear c2
                     try clear p2
                     try clear c3
                     try clear c4
                     try clear c5
                     try clear c6
                     try clear c7
                     try clear c8
                     try clear c9
                     try clear c12
                     try clear c14
                     try clear c17
                     try clear c18
                     try clear c18b0
                     try clear c19
                     try clear c22
                     try clear c22b0
                     try clear c22b1
                     try clear c23
                     try clear c26
                     try clear c26b0
                     try clear c27
                     try clear c30
                     try clear c30b0
                     try clear c30b1
                     try clear c31
                     try clear c34
                     try clear c34b0
                     try clear c34b1
                     try clear c34b2
                     try clear c35
                     try clear c39
                     try clear c42
                     try clear c42b0
                     try clear c42b1
                     try clear c43
                     try clear c46
                     try clear c49
                     try clear c50
                     try clear c50b0
                     try clear c50b1
                     try clear c51
                     try clear c55
                     try clear c58
                     try clear c58b0
                     try clear c58b1
                     try clear c59
                     try clear c62
                     try clear c65
                     try clear c66
                     try clear c66b0
                     try clear c66b1
                     try clear c67
                     try clear c71
                     try clear c74
                     try clear c74b0
                     try clear c75
                     try clear c78
                     try clear c81
                     try clear c83
                     try clear c83b0
                     try clear c84
                     try clear c87
                     try clear hcz10_0
                     try clear hcz10_1
                     try clear hcz12_0
                     try clear hcz12_1
                     try clear hcz15_0
                     try clear hcz15_1
                     try clear hcz20_0
                     try clear hcz20_1
                     try clear hcz21_0
                     try clear hcz21_1
                     try clear hcz24_0
                     try clear hcz24_1
                     try clear hcz25_0
                     try clear hcz25_1
                     try clear hcz28_0
                     try clear hcz28_1
                     try clear hcz29_0
                     try clear hcz29_1
                     try clear hcz32_0
                     try clear hcz32_1
                     try clear hcz33_0
                     try clear hcz33_1
                     try clear hcz36_0
                     try clear hcz36_1
                     try clear hcz37_0
                     try clear hcz37_1
                     try clear hcz40_0
                     try clear hcz40_1
                     try clear hcz41_0
                     try clear hcz41_1
                     try clear hcz44_0
                     try clear hcz44_1
                     try clear hcz45_0
                     try clear hcz45_1
                     try clear hcz47_0
                     try clear hcz47_1
                     try clear hcz48_0
                     try clear hcz48_1
                     try clear hcz52_0
                     try clear hcz52_1
                     try clear hcz53_0
                     try clear hcz53_1
                     try clear hcz56_0
                     try clear hcz56_1
                     try clear hcz57_0
                     try clear hcz57_1
                     try clear hcz60_0
                     try clear hcz60_1
                     try clear hcz61_0
                     try clear hcz61_1
                     try clear hcz63_0
                     try clear hcz63_1
                     try clear hcz64_0
                     try clear hcz64_1
                     try clear hcz68_0
                     try clear hcz68_1
                     try clear hcz69_0
                     try clear hcz69_1
                     try clear hcz72_0
                     try clear hcz72_1
                     try clear hcz73_0
                     try clear hcz73_1
                     try clear hcz76_0
                     try clear hcz76_1
                     try clear hcz77_0
                     try clear hcz77_1
                     try clear hcz79_0
                     try clear hcz79_1
                     try clear hcz80_0
                     try clear hcz80_1
                     try clear hcz85_0
                     try clear hcz85_1
                     try clear hcz86_0
                     try clear hcz86_1
                     try clear hcz88_0
                     try clear hcz88_1
                     try clear hcz89_0
                     try clear hcz89_1
                     try clear hfz10_0
                     try clear hfz10_1
                     try clear hfz12_0
                     try clear hfz12_1
                     try clear hfz15_0
                     try clear hfz15_1
                     try clear hfz20_0
                     try clear hfz20_1
                     try clear hfz21_0
                     try clear hfz21_1
                     try clear hfz24_0
                     try clear hfz24_1
                     try clear hfz25_0
                     try clear hfz25_1
                     try clear hfz28_0
                     try clear hfz28_1
                     try clear hfz29_0
                     try clear hfz29_1
                     try clear hfz32_0
                     try clear hfz32_1
                     try clear hfz33_0
                     try clear hfz33_1
                     try clear hfz36_0
                     try clear hfz36_1
                     try clear hfz37_0
                     try clear hfz37_1
                     try clear hfz40_0
                     try clear hfz40_1
                     try clear hfz41_0
                     try clear hfz41_1
                     try clear hfz44_0
                     try clear hfz44_1
                     try clear hfz45_0
                     try clear hfz45_1
                     try clear hfz47_0
                     try clear hfz47_1
                     try clear hfz48_0
                     try clear hfz48_1
                     try clear hfz52_0
                     try clear hfz52_1
                     try clear hfz53_0
                     try clear hfz53_1
                     try clear hfz56_0
                     try clear hfz56_1
                     try clear hfz57_0
                     try clear hfz57_1
                     try clear hfz60_0
                     try clear hfz60_1
                     try clear hfz61_0
                     try clear hfz61_1
                     try clear hfz63_0
                     try clear hfz63_1
                     try clear hfz64_0
                     try clear hfz64_1
                     try clear hfz68_0
                     try clear hfz68_1
                     try clear hfz69_0
                     try clear hfz69_1
                     try clear hfz72_0
                     try clear hfz72_1
                     try clear hfz73_0
                     try clear hfz73_1
                     try clear hfz76_0
                     try clear hfz76_1
                     try clear hfz77_0
                     try clear hfz77_1
                     try clear hfz79_0
                     try clear hfz79_1
                     try clear hfz80_0
                     try clear hfz80_1
                     try clear hfz85_0
                     try clear hfz85_1
                     try clear hfz86_0
                     try clear hfz86_1
                     try clear hfz88_0
                     try clear hfz88_1
                     try clear hfz89_0
                     try clear hfz89_1
                     try clear p2
                     obtain ⟨kq, x93_81, rfl, HA, HJ81, BK102, BK103, HB⟩ := hcut
                     cases kq with
                     | zero => exact absurd HA.out (by simp [allen_Relation.j4])
                     | succ kj81 =>
                      have H := HA.out
                      clear HA
                      simp only [allen_Relation.j4] at H
                      by_cases c90 : x93_81 = true
                      ·subst c90
                       have H1 : (some (4, true)) = some (r1, r2) := by rw [if_pos rfl] at H; exact H
                       clear H
                       have H := H1
                       clear H1
                       simp only [Option.some.injEq, Prod.mk.injEq] at H
                       obtain ⟨rfl, rfl⟩ := H
                       go_wp2
                       go_ret2
                       exact ⟨by first | rfl | (simp [errW_none, errW_some] <;> rfl) | (simp [*, errW_none, errW_some] <;> rfl), by repeat (first | (with_reducible first | exact HB.out | apply below_alloc | apply pw_below_drewN | apply below_drew1 | refine below_set ?_ GE102.out | refine below_set ?_ GE103.out) | exact HB.out)⟩
                      ·replace c90 := Bool.eq_false_iff.mpr c90
                       subst c90
                       have H1 : (if a0_0 < a1_0 then (some (2, true)) else (some (10, true))) = some (r1, r2) := by rw [if_neg (show ¬ (false = true) by decide)] at H; exact H
                       clear H
                       have H := H1
                       clear H1
                       by_cases c91 : a0_0 < a1_0
                       ·rw [if_pos c91] at H
                        have c91b0 : decide (a0_0 < a1_0) = true := decide_eq_true c91
                        clear c91
                        simp only [Option.some.injEq, Prod.mk.injEq] at H
                        obtain ⟨rfl, rfl⟩ := H
                        have hnb92 := NB102_103.out
                        have hnc92 := NB103_102.out
                        have hcz93_0 : wc.cell? ⟨gb102, 0, none⟩ = some (.int .i64 a0_0) := (blk_cell BK102.out 0).trans rfl
                        have hcz93_1 : wc.cell? ⟨gb102, 1, none⟩ = some (.int .i64 a0_1) := (blk_cell BK102.out 1).trans rfl
                        have hfz93_0 := blk_frozen BK102.out 0
                        have hfz93_1 := blk_frozen BK102.out 1
                        have hcz94_0 : wc.cell? ⟨gb103, 0, none⟩ = some (.int .i64 a1_0) := (blk_cell BK103.out 0).trans rfl
                        have hcz94_1 : wc.cell? ⟨gb103, 1, none⟩ = some (.int .i64 a1_1) := (blk_cell BK103.out 1).trans rfl
                        have hfz94_0 := blk_frozen BK103.out 0
                        have hfz94_1 := blk_frozen BK103.out 1
                        go_wp2
                        go_ret2
                        exact ⟨by first | rfl | (simp [errW_none, errW_some] <;> rfl) | (simp [*, errW_none, errW_some] <;> rfl), by repeat (first | (with_reducible first | exact HB.out | apply below_alloc | apply pw_below_drewN | apply below_drew1 | refine below_set ?_ GE102.out | refine below_set ?_ GE103.out) | exact HB.out)⟩
                       ·rw [if_neg c91] at H
                        have c91b0 : decide (a0_0 < a1_0) = false := decide_eq_false c91
                        clear c91
                        simp only [Option.some.injEq, Prod.mk.injEq] at H
                        obtain ⟨rfl, rfl⟩ := H
                        have hnb95 := NB102_103.out
                        have hnc95 := NB103_102.out
                        have hcz96_0 : wc.cell? ⟨gb102, 0, none⟩ = some (.int .i64 a0_0) := (blk_cell BK102.out 0).trans rfl
                        have hcz96_1 : wc.cell? ⟨gb102, 1, none⟩ = some (.int .i64 a0_1) := (blk_cell BK102.out 1).trans rfl
                        have hfz96_0 := blk_frozen BK102.out 0
                        have hfz96_1 := blk_frozen BK102.out 1
                        have hcz97_0 : wc.cell? ⟨gb103, 0, none⟩ = some (.int .i64 a1_0) := (blk_cell BK103.out 0).trans rfl
                        have hcz97_1 : wc.cell? ⟨gb103, 1, none⟩ = some (.int .i64 a1_1) := (blk_cell BK103.out 1).trans rfl
                        have hfz97_0 := blk_frozen BK103.out 0
                        have hfz97_1 := blk_frozen BK103.out 1
                        go_wp2
                        go_ret2
                        exact ⟨by first | rfl | (simp [errW_none, errW_some] <;> rfl) | (simp [*, errW_none, errW_some] <;> rfl), by repeat (first | (with_reducible first | exact HB.out | apply below_alloc | apply pw_below_drewN | apply below_drew1 | refine below_set ?_ GE102.out | refine below_set ?_ GE103.out) | exact HB.out)⟩
end Go.Proofs.Ytoemcdkopnclbaa.A
