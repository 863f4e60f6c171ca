-- Written by a program (given_print.py of this session, over the kit's print.py): all laws of the seat in one namespace, some functions proved by hand elsewhere. Lean checks it.
import Derived.Test.YtoemcdkopnclbaaVAx0
import Derived.Test.YtoemcdkopnclbaaVAx4
namespace Go.Proofs.Ytoemcdkopnclbaa.A
open Go.RowKit Go.Proofs.YtoemcdkopnclbaaW.PrintWords Go.Proofs.YtoemcdkopnclbaaW.PrintLast Go.Proofs.YtoemcdkopnclbaaW.PrintMore
attribute [local go_sem] max2_int min2_int max_two min_two max_three min_three max_four min_four
set_option linter.unusedVariables false
set_option linter.unusedSimpArgs false
def bitemporalref02_Relation.l0 : Nat → Int → Int → Int → Int → Int → Option (Int × Bool)
 | 0, _, _, _, _, _ => none
 | k + 1, x6, x218000, x218001, x219000, x219001 => if x6 < 13 then ((bitemporalref02_Holds.f x6 x218000 x218001 x219000 x219001).bind fun t219 => (if t219 = true then (some (x6, true)) else (bitemporalref02_Relation.l0 k (wrap64 (x6 + 1)) x218000 x218001 x219000 x219001))) else (some (0, false))
def bitemporalref02_Relation.f (k : Nat) (a0_0 : Int) (a0_1 : Int) (a1_0 : Int) (a1_1 : Int) : Option (Int × Bool) := bitemporalref02_Relation.l0 k 0 a0_0 a0_1 a1_0 a1_1
set_option maxHeartbeats 8000000 in
set_option maxRecDepth 100000 in
theorem bitemporalref02_Relation.calls (k : Nat) (a0_0 : Int) (a0_1 : Int) (a1_0 : Int) (a1_1 : Int) (r1 : Int) (r2 : Bool) (w : World) (h : bitemporalref02_Relation.f k a0_0 a0_1 a1_0 a1_1 = some (r1, r2)) :
  Calls Try.prog 44 #[.agg #[.int .i64 a0_0, .int .i64 a0_1], .agg #[.int .i64 a1_0, .int .i64 a1_1]] w fun e w' => e = .returned (.tuple #[.int .i64 r1, .bool r2]) ∧ Below w.heap.size w w' := by
 have hu23 := Try.underlying23
 have HB := qq0.mk (Below.refl w.heap.size w)
 have H : (bitemporalref02_Relation.l0 k 0 a0_0 a0_1 a1_0 a1_1) = some (r1, r2) := h
 clear h
 have H' := qq0.mk H
 clear H
 go_enter Try.func44, Try.ntmps44
 go_wp2_with (first | ((with_reducible refine qz7 (N := 2) rfl ?_); refine qz6 ?hg (N := 2) ?hd (cs := #[.int .i64 a0_0, .int .i64 a0_1]) (t := 23) ?hr ?_; (case hd => rfl); (case hg => rfl); (case hr => first | (go_simp; done) | (go_simp; rfl)); intro gb217 hg w3 hbox hb; have n0_ := qq0.mk (qq7 (by repeat (first | (with_reducible first | exact HB.out | apply qq3 | apply qq1 | apply qq2) | exact HB.out)) hb); have n1_ := qq0.mk (hbox); have n2_ := qq0.mk ((by rw [hg]; exact (qz2 (by repeat (first | (with_reducible first | exact HB.out | apply qq3 | apply qq1 | apply qq2) | exact HB.out))) : w.heap.size ≤ gb217)); have n3_ := qq0.mk ((by rw [hg]; exact (qz2 (by repeat (first | (with_reducible first | exact HB.out | apply qq3 | apply qq1 | apply qq2) | exact HB.out))) : w.heap.size ≤ gb217)); clear HB; have HB := n0_; have BK217 := n1_; have GW217 := n2_; have GE217 := n3_; clear n0_ n1_ n2_ n3_; clear hb hbox hg) | ((with_reducible refine qz7 (N := 3) rfl ?_); refine qz6 ?hg (N := 3) ?hd (cs := #[.int .i64 a1_0, .int .i64 a1_1]) (t := 23) ?hr ?_; (case hd => rfl); (case hg => rfl); (case hr => first | (go_simp; done) | (go_simp; rfl)); intro gb218 hg w4 hbox hb; have n0_ := qq0.mk (qz0 (g := gb217) (o := .cells #[.int .i64 a0_0, .int .i64 a0_1] 23 (0, 0)) (by (with_reducible repeat (first | refine qq8 ?_ _ | refine qz1 ?_ | refine qq9 ?_ _)); exact BK217.out) hb); have n1_ := qq0.mk (qq7 (by repeat (first | (with_reducible first | exact HB.out | apply qq3 | apply qq1 | apply qq2 | refine qq4 ?_ GE217.out) | exact HB.out)) hb); have n2_ := qq0.mk (hbox); have n3_ := qq0.mk ((by rw [hg]; exact (qz2 (by repeat (first | (with_reducible first | exact HB.out | apply qq3 | apply qq1 | apply qq2 | refine qq4 ?_ GE217.out) | exact HB.out))) : w.heap.size ≤ gb218)); have n4_ := qq0.mk ((by rw [hg]; exact (qz2 (by repeat (first | (with_reducible first | exact HB.out | apply qq3 | apply qq1 | apply qq2 | refine qq4 ?_ GE217.out) | exact HB.out))) : w.heap.size ≤ gb218)); have n5_ := qq0.mk ((by rw [hg]; exact Nat.ne_of_lt (qw0 (g := gb217) (o := .cells #[.int .i64 a0_0, .int .i64 a0_1] 23 (0, 0)) (by (with_reducible repeat (first | refine qq8 ?_ _ | refine qz1 ?_ | refine qq9 ?_ _)); exact BK217.out)) : gb217 ≠ gb218)); have n6_ := qq0.mk ((by rw [hg]; exact Nat.ne_of_gt (qw0 (g := gb217) (o := .cells #[.int .i64 a0_0, .int .i64 a0_1] 23 (0, 0)) (by (with_reducible repeat (first | refine qq8 ?_ _ | refine qz1 ?_ | refine qq9 ?_ _)); exact BK217.out)) : gb218 ≠ gb217)); clear BK217; clear HB; have BK217 := n0_; have HB := n1_; have BK218 := n2_; have GW218 := n3_; have GE218 := n4_; have NB217_218 := n5_; have NB218_217 := n6_; clear n0_ n1_ n2_ n3_ n4_ n5_ n6_; clear hb hbox hg))
 go_loopg [6] k (fun kq v6 w' => ∃ (x6_1 : Int), v6 = .int .i64 x6_1 ∧ qq0 (bitemporalref02_Relation.l0 kq x6_1 a0_0 a0_1 a1_0 a1_1 = some (r1, r2)) ∧ qq0 (kq ≤ k) ∧ qq0 (w'.heap[gb217]? = some (.cells #[.int .i64 a0_0, .int .i64 a0_1] 23 (0, 0))) ∧ qq0 (w'.heap[gb218]? = some (.cells #[.int .i64 a1_0, .int .i64 a1_1] 23 (0, 0))) ∧ qq0 (Below w.heap.size w w'))
 case atStart => exact ⟨(0), (by first | rfl | (simp; done) | (simp [*]; done)), H', ⟨Nat.le_refl _⟩, ⟨by (with_reducible repeat (first | refine qq8 ?_ _ | refine qz1 ?_ | refine qq9 ?_ _)); exact BK217.out⟩, ⟨by (with_reducible repeat (first | refine qq8 ?_ _ | refine qz1 ?_ | refine qq9 ?_ _)); exact BK218.out⟩, ⟨by repeat (first | (with_reducible first | exact HB.out | apply qq3 | apply qq1 | apply qq2 | refine qq4 ?_ GE217.out | refine qq4 ?_ GE218.out) | exact HB.out)⟩⟩
 case round =>
  clear H'
  try clear p2
  try clear c4
  obtain ⟨x6_1, rfl, HA, HK1, BK217, BK218, HB⟩ := hrel
  cases gk with
  | zero => exact absurd HA.out (by simp [bitemporalref02_Relation.l0])
  | succ k1 =>
   have H := HA.out
   clear HA
   simp only [bitemporalref02_Relation.l0] at H
   by_cases c5 : x6_1 < 13
   ·rw [if_pos c5] at H
    have c5b0 : decide (x6_1 < 13) = true := decide_eq_true c5
    clear c5
    replace H := Option.bind_eq_some_iff.mp H
    obtain ⟨t219, A60, H⟩ := H
    replace H : (if t219 = true then (some (x6_1, true)) else (bitemporalref02_Relation.l0 k1 (wrap64 (x6_1 + 1)) a0_0 a0_1 a1_0 a1_1)) = some (r1, r2) := H
    have A6 := qq0.mk A60
    clear A60
    by_cases c7 : t219 = true
    ·subst c7
     have H1 : (some (x6_1, true)) = some (r1, r2) := by rw [if_pos rfl] at H; exact H
     clear H
     have H := H1
     clear H1
     simp only [Option.some.injEq, Prod.mk.injEq] at H
     obtain ⟨rfl, rfl⟩ := H
     have hnb8 := NB217_218.out
     have hnc8 := NB218_217.out
     have hcz9_0 : wr.cell? ⟨gb217, 0, none⟩ = some (.int .i64 a0_0) := (qq5 BK217.out 0).trans rfl
     have hcz9_1 : wr.cell? ⟨gb217, 1, none⟩ = some (.int .i64 a0_1) := (qq5 BK217.out 1).trans rfl
     have hfz9_0 := qq6 BK217.out 0
     have hfz9_1 := qq6 BK217.out 1
     have hcz10_0 : wr.cell? ⟨gb218, 0, none⟩ = some (.int .i64 a1_0) := (qq5 BK218.out 0).trans rfl
     have hcz10_1 : wr.cell? ⟨gb218, 1, none⟩ = some (.int .i64 a1_1) := (qq5 BK218.out 1).trans rfl
     have hfz10_0 := qq6 BK218.out 0
     have hfz10_1 := qq6 BK218.out 1
     go_wp2_with (first | ((with_reducible refine gate_callee (f := 11) rfl ?_); refine goesL_ (some 14) rfl rfl Try.func11 (by kernel_rfl) rfl #[.int .i64 x6_1, .agg #[.int .i64 a0_0, .int .i64 a0_1], .agg #[.int .i64 a1_0, .int .i64 a1_1]] rfl (by (try simp only [List.map_toArray, List.map_cons, List.map_nil]); first | done | rfl | (simp only [List.length_drop, List.length_take]; rfl)) ?_; (with_reducible refine (bitemporalref02_Holds.calls x6_1 a0_0 a0_1 a1_0 a1_1 true _ A6.out).mono ?_); rintro e w11 ⟨rfl, hb⟩; refine ⟨_, rfl, ?_⟩; have n0_ := qq0.mk (qz0 (g := gb217) (o := .cells #[.int .i64 a0_0, .int .i64 a0_1] 23 (0, 0)) (by (with_reducible repeat (first | refine qq8 ?_ _ | refine qz1 ?_ | refine qq9 ?_ _)); exact BK217.out) hb); have n1_ := qq0.mk (qz0 (g := gb218) (o := .cells #[.int .i64 a1_0, .int .i64 a1_1] 23 (0, 0)) (by (with_reducible repeat (first | refine qq8 ?_ _ | refine qz1 ?_ | refine qq9 ?_ _)); exact BK218.out) hb); have n2_ := qq0.mk (qq7 (by repeat (first | (with_reducible first | exact HB.out | apply qq3 | apply qq1 | apply qq2 | refine qq4 ?_ GE217.out | refine qq4 ?_ GE218.out) | exact HB.out)) hb); clear BK217; clear BK218; clear HB; have BK217 := n0_; have BK218 := n1_; have HB := n2_; clear n0_ n1_ n2_; (try clear hb); (try clear hb2); (try clear hk); (try clear hi)))
     go_ret2
     exact ⟨by first | rfl | (simp [qz5, qz4] <;> rfl) | (simp [*, qz5, qz4] <;> rfl), by repeat (first | (with_reducible first | exact HB.out | apply qq3 | apply qq1 | apply qq2 | refine qq4 ?_ GE217.out | refine qq4 ?_ GE218.out) | exact HB.out)⟩
    ·replace c7 := Bool.eq_false_iff.mpr c7
     subst c7
     have H1 : (bitemporalref02_Relation.l0 k1 (wrap64 (x6_1 + 1)) a0_0 a0_1 a1_0 a1_1) = some (r1, r2) := by rw [if_neg (show ¬ (false = true) by decide)] at H; exact H
     clear H
     have H := H1
     clear H1
     have H' := qq0.mk H
     clear H
     have hnb12 := NB217_218.out
     have hnc12 := NB218_217.out
     have hcz13_0 : wr.cell? ⟨gb217, 0, none⟩ = some (.int .i64 a0_0) := (qq5 BK217.out 0).trans rfl
     have hcz13_1 : wr.cell? ⟨gb217, 1, none⟩ = some (.int .i64 a0_1) := (qq5 BK217.out 1).trans rfl
     have hfz13_0 := qq6 BK217.out 0
     have hfz13_1 := qq6 BK217.out 1
     have hcz14_0 : wr.cell? ⟨gb218, 0, none⟩ = some (.int .i64 a1_0) := (qq5 BK218.out 0).trans rfl
     have hcz14_1 : wr.cell? ⟨gb218, 1, none⟩ = some (.int .i64 a1_1) := (qq5 BK218.out 1).trans rfl
     have hfz14_0 := qq6 BK218.out 0
     have hfz14_1 := qq6 BK218.out 1
     go_wp2_with (first | ((with_reducible refine gate_callee (f := 11) rfl ?_); refine goesL_ (some 14) rfl rfl Try.func11 (by kernel_rfl) rfl #[.int .i64 x6_1, .agg #[.int .i64 a0_0, .int .i64 a0_1], .agg #[.int .i64 a1_0, .int .i64 a1_1]] rfl (by (try simp only [List.map_toArray, List.map_cons, List.map_nil]); first | done | rfl | (simp only [List.length_drop, List.length_take]; rfl)) ?_; (with_reducible refine (bitemporalref02_Holds.calls x6_1 a0_0 a0_1 a1_0 a1_1 false _ A6.out).mono ?_); rintro e w15 ⟨rfl, hb⟩; refine ⟨_, rfl, ?_⟩; have n0_ := qq0.mk (qz0 (g := gb217) (o := .cells #[.int .i64 a0_0, .int .i64 a0_1] 23 (0, 0)) (by (with_reducible repeat (first | refine qq8 ?_ _ | refine qz1 ?_ | refine qq9 ?_ _)); exact BK217.out) hb); have n1_ := qq0.mk (qz0 (g := gb218) (o := .cells #[.int .i64 a1_0, .int .i64 a1_1] 23 (0, 0)) (by (with_reducible repeat (first | refine qq8 ?_ _ | refine qz1 ?_ | refine qq9 ?_ _)); exact BK218.out) hb); have n2_ := qq0.mk (qq7 (by repeat (first | (with_reducible first | exact HB.out | apply qq3 | apply qq1 | apply qq2 | refine qq4 ?_ GE217.out | refine qq4 ?_ GE218.out) | exact HB.out)) hb); clear BK217; clear BK218; clear HB; have BK217 := n0_; have BK218 := n1_; have HB := n2_; clear n0_ n1_ n2_; (try clear hb); (try clear hb2); (try clear hk); (try clear hi)))
     go_roundg k1
     case measure => have := HK1.out; omega
     case rel => exact ⟨(wrap64 (x6_1 + 1)), (by first | rfl | (simp; done) | (simp [*]; done)), H', ⟨by have := HK1.out; omega⟩, ⟨by (with_reducible repeat (first | refine qq8 ?_ _ | refine qz1 ?_ | refine qq9 ?_ _)); exact BK217.out⟩, ⟨by (with_reducible repeat (first | refine qq8 ?_ _ | refine qz1 ?_ | refine qq9 ?_ _)); exact BK218.out⟩, ⟨by repeat (first | (with_reducible first | exact HB.out | apply qq3 | apply qq1 | apply qq2 | refine qq4 ?_ GE217.out | refine qq4 ?_ GE218.out) | exact HB.out)⟩⟩
   ·rw [if_neg c5] at H
    have c5b0 : decide (x6_1 < 13) = false := decide_eq_false c5
    clear c5
    simp only [Option.some.injEq, Prod.mk.injEq] at H
    obtain ⟨rfl, rfl⟩ := H
    go_wp2
    go_ret2
    exact ⟨by first | rfl | (simp [qz5, qz4] <;> rfl) | (simp [*, qz5, qz4] <;> rfl), by repeat (first | (with_reducible first | exact HB.out | apply qq3 | apply qq1 | apply qq2 | refine qq4 ?_ GE217.out | refine qq4 ?_ GE218.out) | exact HB.out)⟩
mutual
def bitemporalref02_small.l0 : Nat → List (S23) → Int → Option ((List (S23)))
 | 0, _, _ => none
 | k + 1, x1, x2 => if x2 < 6 then (bitemporalref02_small.l1 k x1 x2 (wrap64 (x2 + 1))) else (some x1)
def bitemporalref02_small.l1 : Nat → List (S23) → Int → Int → Option ((List (S23)))
 | 0, _, _, _ => none
 | k + 1, x1, x2, x3 => if x3 < 6 then (if x1.length < 8796093022208 then (bitemporalref02_small.l1 k (x1 ++ [(⟨x2, x3⟩ : S23)]) x2 (wrap64 (x3 + 1))) else (none)) else (bitemporalref02_small.l0 k x1 (wrap64 (x2 + 1)))
end
def bitemporalref02_small.f (k : Nat)  : Option ((List (S23))) := bitemporalref02_small.l0 k ([] : List (S23)) 0
theorem bitemporalref02_small.mono_l : ∀ k, (∀ y0 y1, LeO (bitemporalref02_small.l0 k y0 y1) (bitemporalref02_small.l0 (k + 1) y0 y1)) ∧ (∀ y0 y1 y2, LeO (bitemporalref02_small.l1 k y0 y1 y2) (bitemporalref02_small.l1 (k + 1) y0 y1 y2))
 | 0 => ⟨fun _ _ r h => by simp [bitemporalref02_small.l0] at h, fun _ _ _ r h => by simp [bitemporalref02_small.l1] at h⟩
 | k + 1 => by
  obtain ⟨ih0, ih1⟩ := bitemporalref02_small.mono_l k
  refine ⟨?_, ?_⟩
  ·intro y0 y1
   unfold bitemporalref02_small.l0
   repeat' first
   | (with_reducible exact ih0 _ _)
   | (with_reducible exact ih1 _ _ _)
   | (with_reducible exact LeO.refl _)
   | (with_reducible exact LeO.none _)
   | (with_reducible refine LeO.ite ?_ ?_)
   | (with_reducible refine LeO.bind ?_ (fun _ => ?_))
   | exact ih0 _ _
   | exact ih1 _ _ _
   | exact LeO.none _
   | refine LeO.ite ?_ ?_
   | refine LeO.bind ?_ (fun _ => ?_)
  ·intro y0 y1 y2
   unfold bitemporalref02_small.l1
   repeat' first
   | (with_reducible exact ih0 _ _)
   | (with_reducible exact ih1 _ _ _)
   | (with_reducible exact LeO.refl _)
   | (with_reducible exact LeO.none _)
   | (with_reducible refine LeO.ite ?_ ?_)
   | (with_reducible refine LeO.bind ?_ (fun _ => ?_))
   | exact ih0 _ _
   | exact ih1 _ _ _
   | exact LeO.none _
   | refine LeO.ite ?_ ?_
   | refine LeO.bind ?_ (fun _ => ?_)
theorem bitemporalref02_small.mono : ∀ k, LeO (bitemporalref02_small.f k ) (bitemporalref02_small.f (k + 1) ) := by
 intro  k
 obtain ⟨ih0, ih1⟩ := bitemporalref02_small.mono_l k
 unfold bitemporalref02_small.f
 repeat' first
   | (with_reducible exact ih0 _ _)
   | (with_reducible exact ih1 _ _ _)
   | (with_reducible exact LeO.refl _)
   | (with_reducible exact LeO.none _)
   | (with_reducible refine LeO.ite ?_ ?_)
   | (with_reducible refine LeO.bind ?_ (fun _ => ?_))
   | exact ih0 _ _
   | exact ih1 _ _ _
   | exact LeO.none _
   | refine LeO.ite ?_ ?_
   | refine LeO.bind ?_ (fun _ => ?_)
set_option maxHeartbeats 8000000 in
set_option maxRecDepth 100000 in
theorem bitemporalref02_small.calls (k : Nat)  (r : List (S23)) (w : World) (h : bitemporalref02_small.f k  = some r) :
  Calls Try.prog 48 #[] w fun e w' => ∃ v0_ : Value, e = .returned (v0_) ∧ Kd.R k23 23 w' w.heap.size (fun _ => True) v0_ r ∧ Below w.heap.size w w' := by
 have hu23 := Try.underlying23
 have HB := qq0.mk (Below.refl w.heap.size w)
 have H : (bitemporalref02_small.l0 k ([] : List (S23)) 0) = some r := h
 clear h
 have H' := qq0.mk H
 clear H
 go_enter Try.func48, Try.ntmps48
 go_wp2
 go_loopg [1, 2] k (fun kq v1 v2 w' => ∃ (x1_1 : List (S23)) (x2_1 : Int), v2 = .int .i64 x2_1 ∧ qq0 (bitemporalref02_small.l0 kq x1_1 x2_1 = some r) ∧ qq0 (kq ≤ k) ∧ qq0 (Kd.R k23 23 w' w.heap.size (fun _ => True) v1 x1_1) ∧ qq0 (Below w.heap.size w w'))
 case atStart => exact ⟨(([] : List (S23))), (0), (by first | rfl | (simp; done) | (simp [*]; done)), H', ⟨Nat.le_refl _⟩, ⟨by first | exact Kd.R_nil _ _ _ _ _ | exact Kd.N_nil _ _ _ _ _ | exact Kd.V_nil _ _ _ _ _ | exact Kd.Q_nil _ _ _ _ _ | exact Kd.S_nil _ _ _ _ _⟩, ⟨by repeat (first | (with_reducible first | exact HB.out | apply qq3 | apply qq1 | apply qq2) | exact HB.out)⟩⟩
 case round =>
  clear H'
  obtain ⟨x1_1, x2_1, rfl, HA, HK1, HO_1, HB⟩ := hrel
  cases gk with
  | zero => exact absurd HA.out (by simp [bitemporalref02_small.l0])
  | succ k1 =>
   have H := HA.out
   clear HA
   simp only [bitemporalref02_small.l0] at H
   by_cases c1 : x2_1 < 6
   ·rw [if_pos c1] at H
    have c1b0 : decide (x2_1 < 6) = true := decide_eq_true c1
    clear c1
    have H' := qq0.mk H
    clear H
    go_wp2
    go_loopg [1, 3] k1 (fun kq v1 v3 w' => ∃ (x1_2 : List (S23)) (x3_2 : Int), v3 = .int .i64 x3_2 ∧ qq0 (bitemporalref02_small.l1 kq x1_2 x2_1 x3_2 = some r) ∧ qq0 (kq ≤ k1) ∧ qq0 (Kd.R k23 23 w' w.heap.size (fun _ => True) v1 x1_2) ∧ qq0 (Below w.heap.size w w'))
    case atStart => exact ⟨(x1_1), (wrap64 (x2_1 + 1)), (by first | rfl | (simp; done) | (simp [*]; done)), H', ⟨Nat.le_refl _⟩, ⟨by (with_reducible repeat (first | apply Kd.R_alloc | apply Kd.R_drewN | apply Kd.R_drew)); exact HO_1.out⟩, ⟨by repeat (first | (with_reducible first | exact HB.out | apply qq3 | apply qq1 | apply qq2) | exact HB.out)⟩⟩
    case round =>
     clear H'
     try clear c1
     try clear c1b0
     obtain ⟨x1_2, x3_2, rfl, HA, HK2, HO_1, HB⟩ := hrel
     cases gk with
     | zero => exact absurd HA.out (by simp [bitemporalref02_small.l1])
     | succ k2 =>
      have H := HA.out
      clear HA
      simp only [bitemporalref02_small.l1] at H
      by_cases c2 : x3_2 < 6
      ·rw [if_pos c2] at H
       have c2b0 : decide (x3_2 < 6) = true := decide_eq_true c2
       clear c2
       by_cases c3 : x1_2.length < 8796093022208
       ·rw [if_pos c3] at H
        have LMc3 := qq0.mk c3
        clear c3
        obtain ⟨y220, hy220⟩ : ∃ y_ : List (S23), y_ = (x1_2 ++ [(⟨x2_1, x3_2⟩ : S23)]) := ⟨_, rfl⟩
        replace H : (bitemporalref02_small.l1 k2 y220 x2_1 (wrap64 (x3_2 + 1))) = some r := by first | (rw [hy220]; with_reducible exact H) | (have H2_ := (Option.bind_some _ _).symm.trans H; rw [hy220]; with_reducible exact H2_) | (have H2_ := (Option.bind_some _ _).symm.trans H; with_reducible exact H2_) | with_reducible exact H | (rw [hy220]; exact H) | exact H
        have Ny220 := qq0.mk hy220
        clear hy220
        have H' := qq0.mk H
        clear H
        go_wp2_with (first | ((with_reducible refine gate_builtin (b := .append) (xs := #[.tmp 14, .tmp 18]) rfl ?_); at_builtin; refine Kd.R_append k23 (w0 := w) w.heap.size rfl (.tmp 14) (.tmp 18) 46 23 (.agg #[(.int .i64 0), (.int .i64 0)]) 16 rfl Try.underlying46 info23 rfl (by decide) (by omega) u1 x1_2 (⟨x2_1, x3_2⟩ : S23) [.int .i64 x2_1, .int .i64 x3_2] (fun _ => True) (fun _ => False) rfl rfl ?aP (fun _ hk => hk.elim) ?aF ?aO ?aB ?aS ?aL ?_; (case aP => exact k23_mkM _ _ _ (⟨x2_1, x3_2⟩ : S23)); (case aB => exact (by repeat (first | (with_reducible first | exact HB.out | apply qq3 | apply qq1 | apply qq2) | exact HB.out))); (case aF => exact (fun _ _ => trivial)); (case aO => exact (by (with_reducible repeat (first | apply Kd.R_alloc | apply Kd.R_drewN | apply Kd.R_drew)); exact HO_1.out)); (case aS => exact (qz2 (by repeat (first | (with_reducible first | exact HB.out | apply qq3 | apply qq1 | apply qq2) | exact HB.out)))); (case aL => have := LMc3.out; omega); intro v221 w4 ho hb hg hat; rw [← Ny220.out] at ho; have n0_ := qq0.mk (hb); have n1_ := qq0.mk (ho); clear HB; clear HO_1; have HB := n0_; have HO222 := n1_; clear n0_ n1_; clear ho hb hg hat))
        go_roundg k2
        case measure => have := HK1.out; have := HK2.out; omega
        case rel => exact ⟨(y220), (wrap64 (x3_2 + 1)), (by first | rfl | (simp; done) | (simp [*]; done)), H', ⟨by have := HK1.out; have := HK2.out; omega⟩, ⟨by (with_reducible repeat (first | apply Kd.R_alloc | apply Kd.R_drewN | apply Kd.R_drew)); exact HO222.out⟩, ⟨by repeat (first | (with_reducible first | exact HB.out | apply qq3 | apply qq1 | apply qq2) | exact HB.out)⟩⟩
       ·rw [if_neg c3] at H
        exact absurd H (by simp)
      ·rw [if_neg c2] at H
       have c2b0 : decide (x3_2 < 6) = false := decide_eq_false c2
       clear c2
       have H' := qq0.mk H
       clear H
       go_wp2
       go_roundg k2
       case measure => have := HK1.out; have := HK2.out; omega
       case rel => exact ⟨(x1_2), (wrap64 (x2_1 + 1)), (by first | rfl | (simp; done) | (simp [*]; done)), H', ⟨by have := HK1.out; have := HK2.out; omega⟩, ⟨by (with_reducible repeat (first | apply Kd.R_alloc | apply Kd.R_drewN | apply Kd.R_drew)); exact HO_1.out⟩, ⟨by repeat (first | (with_reducible first | exact HB.out | apply qq3 | apply qq1 | apply qq2) | exact HB.out)⟩⟩
   ·rw [if_neg c1] at H
    have c1b0 : decide (x2_1 < 6) = false := decide_eq_false c1
    clear c1
    obtain rfl := Option.some.inj H
    go_wp2
    go_ret
    exact ⟨_, by first | rfl | (simp [qz5, qz4] <;> rfl) | (simp [*, qz5, qz4] <;> rfl), by (with_reducible repeat (first | apply Kd.R_alloc | apply Kd.R_drewN | apply Kd.R_drew)); exact HO_1.out, by repeat (first | (with_reducible first | exact HB.out | apply qq3 | apply qq1 | apply qq2) | exact HB.out)⟩
end Go.Proofs.Ytoemcdkopnclbaa.A
