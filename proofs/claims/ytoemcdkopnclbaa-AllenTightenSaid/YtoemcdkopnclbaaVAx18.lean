-- Written by a program (given_print.py of this session, over the kit's print.py): all laws of the seat in one namespace, some functions proved by hand elsewhere. Lean checks it.
import Derived.Test.YtoemcdkopnclbaaVAx0
import Derived.Test.YtoemcdkopnclbaaVAx13
import Derived.Test.YtoemcdkopnclbaaVAx15
import Derived.Test.YtoemcdkopnclbaaVAx16
import Derived.Test.YtoemcdkopnclbaaVAx17
namespace Go.Proofs.Ytoemcdkopnclbaa.A
open Go.RowKit Go.Proofs.YtoemcdkopnclbaaW.PrintWords Go.Proofs.YtoemcdkopnclbaaW.PrintLast Go.Proofs.YtoemcdkopnclbaaW.PrintMore
attribute [local go_sem] max2_int min2_int max_two min_two max_three min_three max_four min_four
set_option linter.unusedVariables false
set_option linter.unusedSimpArgs false
mutual
def bitemporalref02_Tighten.j0 : Nat → Int → List (S51) → Bool → Option ((List (S51)) × Bool)
 | 0, _, _, _ => none
 | k + 1, x0, x1, x25 => if x25 = true then (some (([] : List (S51)), false)) else ((bitemporalref02_Table.f k).bind fun t291 => ((bitemporalref02_start.f k x0 x1).bind fun t294 => (bitemporalref02_Tighten.l0 k x0 t291 t294 0)))
def bitemporalref02_Tighten.j2 : Nat → Int → List Bool → Option ((List (S51)) × Bool)
 | 0, _, _ => none
 | k + 1, x0, x7 => bitemporalref02_Tighten.l1 k x0 x7 ([] : List (S51)) 0
def bitemporalref02_Tighten.l1 : Nat → Int → List Bool → List (S51) → Int → Option ((List (S51)) × Bool)
 | 0, _, _, _, _ => none
 | k + 1, x0, x7, x9, x10 => if x10 < x0 then (bitemporalref02_Tighten.l2 k x0 x7 x9 x10 x10) else (some (x9, true))
def bitemporalref02_Tighten.l2 : Nat → Int → List Bool → List (S51) → Int → Int → Option ((List (S51)) × Bool)
 | 0, _, _, _, _, _ => none
 | k + 1, x0, x7, x9, x10, x11 => if x11 < x0 then (bitemporalref02_Tighten.l3 k x0 x7 x9 x10 x11 ([] : List Int) 0) else (bitemporalref02_Tighten.l1 k x0 x7 x9 (wrap64 (x10 + 1)))
def bitemporalref02_Tighten.l3 : Nat → Int → List Bool → List (S51) → Int → Int → List Int → Int → Option ((List (S51)) × Bool)
 | 0, _, _, _, _, _, _, _ => none
 | k + 1, x0, x7, x9, x10, x11, x12, x13 => if x13 < 13 then (if 0 ≤ (wrap64 ((wrap64 (13 * (wrap64 ((wrap64 (x0 * x10)) + x11)))) + x13)) then (if (wrap64 ((wrap64 (13 * (wrap64 ((wrap64 (x0 * x10)) + x11)))) + x13)) < (x7.length : Int) then (if rdOf false x7 (wrap64 ((wrap64 (13 * (wrap64 ((wrap64 (x0 * x10)) + x11)))) + x13)) = true then (if x12.length < 17592186044416 then (bitemporalref02_Tighten.l3 k x0 x7 x9 x10 x11 (x12 ++ [x13]) (wrap64 (x13 + 1))) else (none)) else (bitemporalref02_Tighten.l3 k x0 x7 x9 x10 x11 x12 (wrap64 (x13 + 1)))) else (none)) else (none)) else (if (x12.length : Int) = 0 then (some (([] : List (S51)), false)) else (if x10 < x11 then (if x9.length < 3518437208883 then (bitemporalref02_Tighten.l2 k x0 x7 (x9 ++ [(⟨x10, x11, x12⟩ : S51)]) x10 (wrap64 (x11 + 1))) else (none)) else (bitemporalref02_Tighten.l2 k x0 x7 x9 x10 (wrap64 (x11 + 1)))))
def bitemporalref02_Tighten.l0 : Nat → Int → List Bool → List Bool → Int → Option ((List (S51)) × Bool)
 | 0, _, _, _, _ => none
 | k + 1, x0, x6, x7, x8 => if x8 < (wrap64 ((wrap64 (13 * x0)) * x0)) then ((bitemporalref02_once.f k x6 x7 x0).bind fun bt297 => (if bt297.1 > 0 then (bitemporalref02_Tighten.l0 k x0 x6 bt297.2 (wrap64 (x8 + 1))) else (bitemporalref02_Tighten.j2 k x0 bt297.2))) else (bitemporalref02_Tighten.j2 k x0 x7)
end
def bitemporalref02_Tighten.f (k : Nat) (a0 : Int) (l1 : List (S51)) : Option ((List (S51)) × Bool) := if a0 < 1 then (bitemporalref02_Tighten.j0 k a0 l1 true) else (if a0 > 8 then (bitemporalref02_Tighten.j0 k a0 l1 true) else ((bitemporalref02_Valid.f k a0 l1).bind fun t290 => (bitemporalref02_Tighten.j0 k a0 l1 (!t290))))
set_option maxHeartbeats 8000000 in
set_option maxRecDepth 100000 in
theorem bitemporalref02_Tighten.calls (k : Nat) (a0 : Int) (A1 : Option Addr) (c1 : Nat) (l1 : List (S51)) (r1 : List (S51)) (r2 : Bool) (w : World) (hr1 : Kd.C k51 w A1 l1.length l1) (hc1 : l1.length ≤ c1) (h : bitemporalref02_Tighten.f k a0 l1 = some (r1, r2)) :
  Calls Try.prog 26 #[.int .i64 a0, .slice A1 l1.length c1] w fun e w' => ∃ v0_ : Value, e = .returned (.tuple #[v0_, .bool r2]) ∧ Kd.S k51 51 w' w.heap.size (fun _ => True) v0_ r1 ∧ Below w.heap.size w w' := by
 have hu51 := Try.underlying51
 have HR1 := qq0.mk hr1
 have HC1 := qq0.mk hc1
 clear hr1 hc1
 have HB := qq0.mk (Below.refl w.heap.size w)
 have H : (if a0 < 1 then (bitemporalref02_Tighten.j0 k a0 l1 true) else (if a0 > 8 then (bitemporalref02_Tighten.j0 k a0 l1 true) else ((bitemporalref02_Valid.f k a0 l1).bind fun t290 => (bitemporalref02_Tighten.j0 k a0 l1 (!t290))))) = some (r1, r2) := h
 clear h
 have HC3 := qq0.mk H
 clear H
 go_enter Try.func26, Try.ntmps26
 go_upto_region 1 with (fail)
 go_cut [25] (fun v25 wc => ∃ (kq : Nat) (x25_2 : Bool), v25 = .bool x25_2 ∧ qq0 (bitemporalref02_Tighten.j0 kq a0 l1 x25_2 = some (r1, r2)) ∧ qq0 (kq ≤ k) ∧ qq0 (Below w.heap.size w wc))
 case first =>
  have H := HC3.out
  clear HC3
  by_cases c4 : a0 < 1
  ·rw [if_pos c4] at H
   have c4b0 : decide (a0 < 1) = true := decide_eq_true c4
   clear c4
   (first | rw [c4b0] | (simp only [i64_w, i32_w]; rw [c4b0]) | skip)
   have H' := qq0.mk H
   clear H
   go_wp2
   go_meet
   case rel => exact ⟨_, (true), (by first | rfl | (simp; done) | (simp [*]; done)), H', ⟨by first | omega | exact Nat.le_refl _⟩, ⟨by repeat (first | (with_reducible first | exact HB.out | apply qq3 | apply qq1 | apply qq2) | exact HB.out)⟩⟩
  ·rw [if_neg c4] at H
   have c4b0 : decide (a0 < 1) = false := decide_eq_false c4
   clear c4
   (first | rw [c4b0] | (simp only [i64_w, i32_w]; rw [c4b0]) | skip)
   by_cases c5 : a0 > 8
   ·rw [if_pos c5] at H
    have c5b0 : decide (8 < a0) = true := decide_eq_true c5
    clear c5
    have H' := qq0.mk H
    clear H
    go_wp2
    go_meet
    case rel => exact ⟨_, (true), (by first | rfl | (simp; done) | (simp [*]; done)), H', ⟨by first | omega | exact Nat.le_refl _⟩, ⟨by repeat (first | (with_reducible first | exact HB.out | apply qq3 | apply qq1 | apply qq2) | exact HB.out)⟩⟩
   ·rw [if_neg c5] at H
    have c5b0 : decide (8 < a0) = false := decide_eq_false c5
    clear c5
    replace H := Option.bind_eq_some_iff.mp H
    obtain ⟨t290, A60, H⟩ := H
    replace H : (bitemporalref02_Tighten.j0 k a0 l1 (!t290)) = some (r1, r2) := H
    have A6 := qq0.mk A60
    clear A60
    have H' := qq0.mk H
    clear H
    go_wp2_with (first | (go_at_call 39; (with_reducible refine (bitemporalref02_Valid.calls k a0 _ _ l1 t290 _ ?side1 ?side2 A6.out).mono ?_); (case side1 => repeat (first | exact (Kd.C_below HR1.out HB.out) | (with_reducible refine Kd.C_alloc ?_ _) | (with_reducible refine Kd.C_drewN ?_ _) | (with_reducible refine Kd.C_drew ?_))); (case side2 => exact HC1.out); rintro e w' ⟨rfl, ⟨nd, rfl⟩⟩))
    go_meet
    case rel => exact ⟨_, (!t290), (by first | rfl | (simp; done) | (simp [*]; done)), H', ⟨by first | omega | exact Nat.le_refl _⟩, ⟨by repeat (first | (with_reducible first | exact HB.out | apply qq3 | apply qq1 | apply qq2) | exact HB.out)⟩⟩
 case rest =>
  clear HC3
  try clear c1
  try clear c2
  try clear p2
  try clear c4
  try clear c4b0
  try clear c5
  try clear c5b0
  obtain ⟨kq, x25_2, rfl, HA, HJ2, HB⟩ := hcut
  cases kq with
  | zero => exact absurd HA.out (by simp [bitemporalref02_Tighten.j0])
  | succ kj2 =>
   have H := HA.out
   clear HA
   simp only [bitemporalref02_Tighten.j0] at H
   by_cases c7 : x25_2 = true
   ·subst c7
    have H1 : (some (([] : List (S51)), false)) = some (r1, r2) := by rw [if_pos rfl] at H; exact H
    clear H
    have H := H1
    clear H1
    simp only [Option.some.injEq, Prod.mk.injEq] at H
    obtain ⟨rfl, rfl⟩ := H
    go_wp2
    go_ret2
    exact ⟨_, by first | rfl | (simp [qz5, qz4] <;> rfl) | (simp [*, qz5, qz4] <;> rfl), by first | exact Kd.S_nil _ _ _ _ _ | exact Kd.N_nil _ _ _ _ _ | exact Kd.V_nil _ _ _ _ _ | exact Kd.Q_nil _ _ _ _ _ | exact Kd.R_nil _ _ _ _ _, by repeat (first | (with_reducible first | exact HB.out | apply qq3 | apply qq1 | apply qq2) | exact HB.out)⟩
   ·replace c7 := Bool.eq_false_iff.mpr c7
    subst c7
    have H1 : ((bitemporalref02_Table.f kj2).bind fun t291 => ((bitemporalref02_start.f kj2 a0 l1).bind fun t294 => (bitemporalref02_Tighten.l0 kj2 a0 t291 t294 0))) = some (r1, r2) := by rw [if_neg (show ¬ (false = true) by decide)] at H; exact H
    clear H
    have H := H1
    clear H1
    replace H := Option.bind_eq_some_iff.mp H
    obtain ⟨t291, A80, H⟩ := H
    replace H : ((bitemporalref02_start.f kj2 a0 l1).bind fun t294 => (bitemporalref02_Tighten.l0 kj2 a0 t291 t294 0)) = some (r1, r2) := H
    have A8 := qq0.mk A80
    clear A80
    replace H := Option.bind_eq_some_iff.mp H
    obtain ⟨t294, A90, H⟩ := H
    replace H : (bitemporalref02_Tighten.l0 kj2 a0 t291 t294 0) = some (r1, r2) := H
    have A9 := qq0.mk A90
    clear A90
    have HC10 := qq0.mk H
    clear H
    go_upto_block 0 with (first | ((with_reducible refine gate_callee (f := 36) rfl ?_); refine goesL_ (some 26) rfl rfl Try.func36 (by kernel_rfl) rfl #[] rfl (by (try simp only [List.map_toArray, List.map_cons, List.map_nil]); first | done | rfl | (simp only [List.length_drop, List.length_take]; rfl)) ?_; (with_reducible refine (bitemporalref02_Table.calls kj2  t291 _ A8.out).mono ?_); rintro e w11 ⟨v292, rfl, ho0, hb⟩; refine ⟨_, rfl, ?_⟩; have n0_ := qq0.mk (Kd.R_lower ho0 (qz2 (by repeat (first | (with_reducible first | exact HB.out | apply qq3 | apply qq1 | apply qq2) | exact HB.out)))); have n1_ := qq0.mk (qq7 (by repeat (first | (with_reducible first | exact HB.out | apply qq3 | apply qq1 | apply qq2) | exact HB.out)) hb); clear HB; have HO293 := n0_; have HB := n1_; clear n0_ n1_; (try clear hb); (try clear hb2); (try clear hk); (try clear hi); (try clear ho0)) | ((with_reducible refine gate_callee (f := 40) rfl ?_); refine goesL_ (some 29) rfl rfl Try.func40 (by kernel_rfl) rfl #[.int .i64 a0, .slice A1 l1.length c1] rfl (by (try simp only [List.map_toArray, List.map_cons, List.map_nil]); first | done | rfl | (simp only [List.length_drop, List.length_take]; rfl)) ?_; (with_reducible refine (bitemporalref02_start.calls kj2 a0 _ _ l1 t294 _ ?side1 ?side2 A9.out).mono ?_); (case side1 => repeat (first | exact (Kd.C_below HR1.out HB.out) | (with_reducible refine Kd.C_alloc ?_ _) | (with_reducible refine Kd.C_drewN ?_ _) | (with_reducible refine Kd.C_drew ?_))); (case side2 => exact HC1.out); rintro e w12 ⟨v295, rfl, ho0, hb⟩; refine ⟨_, rfl, ?_⟩; have n0_ := qq0.mk (Kd.R_elder' (by (with_reducible repeat (first | apply Kd.R_alloc | apply Kd.R_drewN | apply Kd.R_drew)); exact HO293.out) (Kd.R_base ho0) hb); have n1_ := qq0.mk (Kd.R_lower (Kd.R_new' ho0 (Kd.R_lt (by (with_reducible repeat (first | apply Kd.R_alloc | apply Kd.R_drewN | apply Kd.R_drew)); exact HO293.out))) (qz2 (by repeat (first | (with_reducible first | exact HB.out | apply qq3 | apply qq1 | apply qq2) | exact HB.out)))); have n2_ := qq0.mk (qq7 (by repeat (first | (with_reducible first | exact HB.out | apply qq3 | apply qq1 | apply qq2) | exact HB.out)) hb); clear HO293; clear HB; have HO293 := n0_; have HO296 := n1_; have HB := n2_; clear n0_ n1_ n2_; (try clear hb); (try clear hb2); (try clear hk); (try clear hi); (try clear ho0)))
    (try simp only [Act.put, List.setIfInBounds_toArray, List.set_cons_zero, List.set_cons_succ])
    go_cut [] (fun wc => ∃ (kq : Nat) (x7_9 : List Bool), qq0 (bitemporalref02_Tighten.j2 kq a0 x7_9 = some (r1, r2)) ∧ qq0 (kq ≤ kj2) ∧ qq0 (Kd.R Kd.bool 4 wc w.heap.size (fun _ => True) v295 x7_9) ∧ qq0 (Below w.heap.size w wc))
    case first =>
     have H := HC10.out
     clear HC10
     have H' := qq0.mk H
     clear H
     go_wp2
     go_loopg [8] kj2 (fun kq v8 w' => ∃ (x7_2 : List Bool) (x8_2 : Int), v8 = .int .i64 x8_2 ∧ qq0 (bitemporalref02_Tighten.l0 kq a0 t291 x7_2 x8_2 = some (r1, r2)) ∧ qq0 (kq ≤ kj2) ∧ qq0 (Kd.R Kd.bool 4 w' w.heap.size (fun k_ => some k_ ≠ (v295 : Value).ownBlock) v292 t291) ∧ qq0 (Kd.R Kd.bool 4 w' w.heap.size (fun k_ => some k_ ≠ (v292 : Value).ownBlock) v295 x7_2) ∧ qq0 (Below w.heap.size w w'))
     case atStart => exact ⟨(t294), (0), (by first | rfl | (simp; done) | (simp [*]; done)), H', ⟨Nat.le_refl _⟩, ⟨by (with_reducible repeat (first | apply Kd.R_alloc | apply Kd.R_drewN | apply Kd.R_drew)); exact Kd.R_mono HO293.out (fun _ hk => hk.2)⟩, ⟨by (with_reducible repeat (first | apply Kd.R_alloc | apply Kd.R_drewN | apply Kd.R_drew)); exact Kd.R_mono HO296.out (fun _ hk => hk.2)⟩, ⟨by repeat (first | (with_reducible first | exact HB.out | apply qq3 | apply qq1 | apply qq2) | exact HB.out)⟩⟩
     case round =>
      clear H'
      try clear c1
      try clear c2
      try clear p2
      try clear c3
      try clear c4
      try clear c4b0
      try clear c5
      try clear c5b0
      try clear c7
      try clear p2
      obtain ⟨x7_2, x8_2, rfl, HA, HK2, HO_6, HO_7, HB⟩ := hrel
      cases gk with
      | zero => exact absurd HA.out (by simp [bitemporalref02_Tighten.l0])
      | succ k2 =>
       have H := HA.out
       clear HA
       simp only [bitemporalref02_Tighten.l0] at H
       by_cases c13 : x8_2 < (wrap64 ((wrap64 (13 * a0)) * a0))
       ·rw [if_pos c13] at H
        have c13b0 : decide (x8_2 < (wrap64 ((wrap64 (13 * a0)) * a0))) = true := decide_eq_true c13
        clear c13
        (first | rw [c13b0] | (simp only [i64_w, i32_w]; rw [c13b0]) | skip)
        replace H := Option.bind_eq_some_iff.mp H
        obtain ⟨⟨t297, t298⟩, A140, H⟩ := H
        replace H : (if t297 > 0 then (bitemporalref02_Tighten.l0 k2 a0 t291 t298 (wrap64 (x8_2 + 1))) else (bitemporalref02_Tighten.j2 k2 a0 t298)) = some (r1, r2) := H
        have A14 := qq0.mk A140
        clear A140
        by_cases c15 : t297 > 0
        ·rw [if_pos c15] at H
         have c15b0 : decide (0 < t297) = true := decide_eq_true c15
         clear c15
         have H' := qq0.mk H
         clear H
         obtain ⟨Ao16, co16, eo16⟩ := Kd.R_slice HO_6.out
         subst eo16
         obtain ⟨Ao17, co17, eo17⟩ := Kd.R_slice HO_7.out
         subst eo17
         go_wp2_with (first | (go_at_call 41; (with_reducible refine (bitemporalref02_once.calls k2 _ _ t291 (fun k_ => some k_ = (.slice Ao17 x7_2.length co17 : Value).ownBlock) (.slice Ao17 x7_2.length co17) x7_2 a0 t297 t298 w _ ?side1 ?side2 ?side3 ?side4 A14.out).mono ?_); (case side1 => repeat (first | (with_reducible first | exact HB.out | apply qq3 | apply qq1 | apply qq2) | exact HB.out)); (case side2 => exact Kd.C_kept_own (HO_6.out) (fun k_ hk_ hs_ => (hk_) hs_)); (case side3 => exact (Kd.R_reads' HO_6.out).2.1); (case side4 => exact Kd.R_tight rfl HO_7.out); rintro e w18 ⟨rfl, hy0, hb, hkp⟩; have n0_ := qq0.mk (Kd.R_mono (ok' := fun k_ => some k_ ≠ (.slice Ao17 x7_2.length co17 : Value).ownBlock) (Kd.R_keptB (HO_6.out) hkp (fun k_ hk_ hs_ => (hk_) hs_)) (fun k_ hk_ => hk_.1)); have n1_ := qq0.mk (Kd.R_reok rfl hy0 (fun k_ e_ => HO_7.out.1 k_ e_)); have n2_ := qq0.mk (hb); clear HO_6; clear HO_7; clear HB; have HO_6 := n0_; have HO_7 := n1_; have HB := n2_; clear n0_ n1_ n2_; (try clear hb); (try clear hkp); (try clear hy0)))
         go_roundg k2
         case measure => have := HJ2.out; have := HK2.out; omega
         case rel => exact ⟨(t298), (wrap64 (x8_2 + 1)), (by first | rfl | (simp; done) | (simp [*]; done)), H', ⟨by have := HJ2.out; have := HK2.out; omega⟩, ⟨by (with_reducible repeat (first | apply Kd.R_alloc | apply Kd.R_drewN | apply Kd.R_drew)); exact HO_6.out⟩, ⟨by (with_reducible repeat (first | apply Kd.R_alloc | apply Kd.R_drewN | apply Kd.R_drew)); exact HO_7.out⟩, ⟨by repeat (first | (with_reducible first | exact HB.out | apply qq3 | apply qq1 | apply qq2) | exact HB.out)⟩⟩
        ·rw [if_neg c15] at H
         have c15b0 : decide (0 < t297) = false := decide_eq_false c15
         clear c15
         have H' := qq0.mk H
         clear H
         obtain ⟨Ao19, co19, eo19⟩ := Kd.R_slice HO_6.out
         subst eo19
         obtain ⟨Ao20, co20, eo20⟩ := Kd.R_slice HO_7.out
         subst eo20
         go_wp2_with (first | (go_at_call 41; (with_reducible refine (bitemporalref02_once.calls k2 _ _ t291 (fun k_ => some k_ = (.slice Ao20 x7_2.length co20 : Value).ownBlock) (.slice Ao20 x7_2.length co20) x7_2 a0 t297 t298 w _ ?side1 ?side2 ?side3 ?side4 A14.out).mono ?_); (case side1 => repeat (first | (with_reducible first | exact HB.out | apply qq3 | apply qq1 | apply qq2) | exact HB.out)); (case side2 => exact Kd.C_kept_own (HO_6.out) (fun k_ hk_ hs_ => (hk_) hs_)); (case side3 => exact (Kd.R_reads' HO_6.out).2.1); (case side4 => exact Kd.R_tight rfl HO_7.out); rintro e w21 ⟨rfl, hy0, hb, hkp⟩; have n0_ := qq0.mk (Kd.R_mono (ok' := fun k_ => some k_ ≠ (.slice Ao20 x7_2.length co20 : Value).ownBlock) (Kd.R_keptB (HO_6.out) hkp (fun k_ hk_ hs_ => (hk_) hs_)) (fun k_ hk_ => hk_.1)); have n1_ := qq0.mk (Kd.R_reok rfl hy0 (fun k_ e_ => HO_7.out.1 k_ e_)); have n2_ := qq0.mk (hb); clear HO_6; clear HO_7; clear HB; have HO_6 := n0_; have HO_7 := n1_; have HB := n2_; clear n0_ n1_ n2_; (try clear hb); (try clear hkp); (try clear hy0)))
         go_meet
         case rel => exact ⟨_, (t298), H', ⟨by have := HJ2.out; have := HK2.out; first | omega | exact Nat.le_refl _⟩, ⟨by (with_reducible repeat (first | apply Kd.R_alloc | apply Kd.R_drewN | apply Kd.R_drew)); exact Kd.R_mono HO_7.out (fun _ hk => trivial)⟩, ⟨by repeat (first | (with_reducible first | exact HB.out | apply qq3 | apply qq1 | apply qq2) | exact HB.out)⟩⟩
       ·rw [if_neg c13] at H
        have c13b0 : decide (x8_2 < (wrap64 ((wrap64 (13 * a0)) * a0))) = false := decide_eq_false c13
        clear c13
        (first | rw [c13b0] | (simp only [i64_w, i32_w]; rw [c13b0]) | skip)
        have H' := qq0.mk H
        clear H
        go_wp2
        go_meet
        case rel => exact ⟨_, (x7_2), H', ⟨by have := HJ2.out; have := HK2.out; first | omega | exact Nat.le_refl _⟩, ⟨by (with_reducible repeat (first | apply Kd.R_alloc | apply Kd.R_drewN | apply Kd.R_drew)); exact Kd.R_mono HO_7.out (fun _ hk => trivial)⟩, ⟨by repeat (first | (with_reducible first | exact HB.out | apply qq3 | apply qq1 | apply qq2) | exact HB.out)⟩⟩
    case rest =>
     clear HC10
     try clear c1
     try clear c2
     try clear p2
     try clear c3
     try clear c4
     try clear c4b0
     try clear c5
     try clear c5b0
     try clear p6
     try clear c7
     try clear c13
     try clear c13b0
     try clear c15
     try clear c15b0
     try clear p2
     obtain ⟨kq, x7_9, HA, HJ9, HO_7, HB⟩ := hcut
     cases kq with
     | zero => exact absurd HA.out (by simp [bitemporalref02_Tighten.j2])
     | succ kj9 =>
      have H := HA.out
      clear HA
      simp only [bitemporalref02_Tighten.j2] at H
      have H' := qq0.mk H
      clear H
      go_wp2
      go_loopg [9, 10] kj9 (fun kq v9 v10 w' => ∃ (x9_3 : List (S51)) (x10_3 : Int), v10 = .int .i64 x10_3 ∧ qq0 (bitemporalref02_Tighten.l1 kq a0 x7_9 x9_3 x10_3 = some (r1, r2)) ∧ qq0 (kq ≤ kj9) ∧ qq0 (Kd.R Kd.bool 4 w' w.heap.size (fun _ => True) v295 x7_9) ∧ qq0 (Kd.S k51 51 w' w.heap.size (fun _ => True) v9 x9_3) ∧ qq0 (Below w.heap.size w w'))
      case atStart => exact ⟨(([] : List (S51))), (0), (by first | rfl | (simp; done) | (simp [*]; done)), H', ⟨Nat.le_refl _⟩, ⟨by (with_reducible repeat (first | apply Kd.R_alloc | apply Kd.R_drewN | apply Kd.R_drew)); exact HO_7.out⟩, ⟨by first | exact Kd.S_nil _ _ _ _ _ | exact Kd.N_nil _ _ _ _ _ | exact Kd.V_nil _ _ _ _ _ | exact Kd.Q_nil _ _ _ _ _ | exact Kd.R_nil _ _ _ _ _⟩, ⟨by repeat (first | (with_reducible first | exact HB.out | apply qq3 | apply qq1 | apply qq2) | exact HB.out)⟩⟩
      case round =>
       clear H'
       try clear c1
       try clear c2
       try clear p2
       try clear c3
       try clear c4
       try clear c4b0
       try clear c5
       try clear c5b0
       try clear p6
       try clear c7
       try clear c13
       try clear c13b0
       try clear c15
       try clear c15b0
       try clear p2
       try clear p6
       obtain ⟨x9_3, x10_3, rfl, HA, HK3, HO_7, HO_9, HB⟩ := hrel
       cases gk with
       | zero => exact absurd HA.out (by simp [bitemporalref02_Tighten.l1])
       | succ k3 =>
        have H := HA.out
        clear HA
        simp only [bitemporalref02_Tighten.l1] at H
        by_cases c22 : x10_3 < a0
        ·rw [if_pos c22] at H
         have c22b0 : decide (x10_3 < a0) = true := decide_eq_true c22
         clear c22
         have H' := qq0.mk H
         clear H
         go_wp2
         go_loopg [9, 11] k3 (fun kq v9 v11 w' => ∃ (x9_4 : List (S51)) (x11_4 : Int), v11 = .int .i64 x11_4 ∧ qq0 (bitemporalref02_Tighten.l2 kq a0 x7_9 x9_4 x10_3 x11_4 = some (r1, r2)) ∧ qq0 (kq ≤ k3) ∧ qq0 (Kd.R Kd.bool 4 w' w.heap.size (fun _ => True) v295 x7_9) ∧ qq0 (Kd.S k51 51 w' w.heap.size (fun _ => True) v9 x9_4) ∧ qq0 (Below w.heap.size w w'))
         case atStart => exact ⟨(x9_3), (x10_3), (by first | rfl | (simp; done) | (simp [*]; done)), H', ⟨Nat.le_refl _⟩, ⟨by (with_reducible repeat (first | apply Kd.R_alloc | apply Kd.R_drewN | apply Kd.R_drew)); exact HO_7.out⟩, ⟨by (with_reducible repeat (first | apply Kd.S_alloc | apply Kd.S_drewN | apply Kd.S_drew)); exact HO_9.out⟩, ⟨by repeat (first | (with_reducible first | exact HB.out | apply qq3 | apply qq1 | apply qq2) | exact HB.out)⟩⟩
         case round =>
          clear H'
          try clear c1
          try clear c2
          try clear p2
          try clear c3
          try clear c4
          try clear c4b0
          try clear c5
          try clear c5b0
          try clear p6
          try clear c7
          try clear c13
          try clear c13b0
          try clear c15
          try clear c15b0
          try clear c22
          try clear c22b0
          try clear p2
          try clear p6
          obtain ⟨x9_4, x11_4, rfl, HA, HK4, HO_7, HO_9, HB⟩ := hrel
          cases gk with
          | zero => exact absurd HA.out (by simp [bitemporalref02_Tighten.l2])
          | succ k4 =>
           have H := HA.out
           clear HA
           simp only [bitemporalref02_Tighten.l2] at H
           by_cases c23 : x11_4 < a0
           ·rw [if_pos c23] at H
            have c23b0 : decide (x11_4 < a0) = true := decide_eq_true c23
            clear c23
            have H' := qq0.mk H
            clear H
            go_wp2
            go_loopg [12, 13] k4 (fun kq v12 v13 w' => ∃ (x12_5 : List Int) (x13_5 : Int), v13 = .int .i64 x13_5 ∧ qq0 (bitemporalref02_Tighten.l3 kq a0 x7_9 x9_4 x10_3 x11_4 x12_5 x13_5 = some (r1, r2)) ∧ qq0 (kq ≤ k4) ∧ qq0 (Kd.R Kd.bool 4 w' w.heap.size (fun _ => True) v295 x7_9) ∧ qq0 (Kd.S k51 51 w' w.heap.size (fun k_ => some k_ ≠ (v12 : Value).ownBlock) u9 x9_4) ∧ qq0 (Kd.R (Kd.int .i64) 3 w' w.heap.size (fun _ => True) v12 x12_5) ∧ qq0 (Below w.heap.size w w'))
            case atStart => exact ⟨(([] : List Int)), (0), (by first | rfl | (simp; done) | (simp [*]; done)), H', ⟨Nat.le_refl _⟩, ⟨by (with_reducible repeat (first | apply Kd.R_alloc | apply Kd.R_drewN | apply Kd.R_drew)); exact HO_7.out⟩, ⟨by (with_reducible repeat (first | apply Kd.S_alloc | apply Kd.S_drewN | apply Kd.S_drew)); exact Kd.S_mono HO_9.out (fun _ hk => (by simp [Value.ownBlock]))⟩, ⟨by first | exact Kd.R_nil _ _ _ _ _ | exact Kd.N_nil _ _ _ _ _ | exact Kd.V_nil _ _ _ _ _ | exact Kd.Q_nil _ _ _ _ _ | exact Kd.S_nil _ _ _ _ _⟩, ⟨by repeat (first | (with_reducible first | exact HB.out | apply qq3 | apply qq1 | apply qq2) | exact HB.out)⟩⟩
            case round =>
             clear H'
             try clear c1
             try clear c2
             try clear p2
             try clear c3
             try clear c4
             try clear c4b0
             try clear c5
             try clear c5b0
             try clear p6
             try clear c7
             try clear c13
             try clear c13b0
             try clear c15
             try clear c15b0
             try clear c22
             try clear c22b0
             try clear c23
             try clear c23b0
             try clear p2
             try clear p6
             obtain ⟨x12_5, x13_5, rfl, HA, HK5, HO_7, HO_9, HO_12, HB⟩ := hrel
             cases gk with
             | zero => exact absurd HA.out (by simp [bitemporalref02_Tighten.l3])
             | succ k5 =>
              have H := HA.out
              clear HA
              simp only [bitemporalref02_Tighten.l3] at H
              by_cases c24 : x13_5 < 13
              ·rw [if_pos c24] at H
               have c24b0 : decide (x13_5 < 13) = true := decide_eq_true c24
               clear c24
               obtain ⟨ji25, hji25⟩ : ∃ j_ : Int, (wrap64 ((wrap64 (13 * (wrap64 ((wrap64 (a0 * x10_3)) + x11_4)))) + x13_5)) = j_ := ⟨_, rfl⟩
               replace H : (if 0 ≤ (ji25) then (if (ji25) < (x7_9.length : Int) then (if rdOf false x7_9 (ji25) = true then (if x12_5.length < 17592186044416 then (bitemporalref02_Tighten.l3 k5 a0 x7_9 x9_4 x10_3 x11_4 (x12_5 ++ [x13_5]) (wrap64 (x13_5 + 1))) else (none)) else (bitemporalref02_Tighten.l3 k5 a0 x7_9 x9_4 x10_3 x11_4 x12_5 (wrap64 (x13_5 + 1)))) else (none)) else (none)) = some (r1, r2) := by first | (rw [hji25] at H; exact H) | (simp only [hji25] at H ⊢; exact H)
               have hji25w : (IntKind.i64.wrap ((wrap64 (13 * (wrap64 ((wrap64 (a0 * x10_3)) + x11_4)))) + x13_5)) = ji25 := (i64_w _).trans hji25
               by_cases c26 : 0 ≤ (ji25)
               ·rw [if_pos c26] at H
                have c26b0 : decide (0 ≤ (ji25)) = true := decide_eq_true c26
                clear c26
                by_cases c27 : (ji25) < (x7_9.length : Int)
                ·rw [if_pos c27] at H
                 have c27b0 : decide ((ji25) < (x7_9.length : Int)) = true := decide_eq_true c27
                 clear c27
                 obtain ⟨bq28, hbq28⟩ : ∃ b_ : Bool, b_ = (rdOf false x7_9 (ji25)) := ⟨_, rfl⟩
                 replace H : (if bq28 = true then (if x12_5.length < 17592186044416 then (bitemporalref02_Tighten.l3 k5 a0 x7_9 x9_4 x10_3 x11_4 (x12_5 ++ [x13_5]) (wrap64 (x13_5 + 1))) else (none)) else (bitemporalref02_Tighten.l3 k5 a0 x7_9 x9_4 x10_3 x11_4 x12_5 (wrap64 (x13_5 + 1)))) = some (r1, r2) := by rw [← hbq28] at H; exact H
                 have Nbq28 := qq0.mk hbq28
                 clear hbq28
                 by_cases c29 : bq28 = true
                 ·subst c29
                  have H1 : (if x12_5.length < 17592186044416 then (bitemporalref02_Tighten.l3 k5 a0 x7_9 x9_4 x10_3 x11_4 (x12_5 ++ [x13_5]) (wrap64 (x13_5 + 1))) else (none)) = some (r1, r2) := by rw [if_pos rfl] at H; exact H
                  clear H
                  have H := H1
                  clear H1
                  by_cases c30 : x12_5.length < 17592186044416
                  ·rw [if_pos c30] at H
                   have LMc30 := qq0.mk c30
                   clear c30
                   obtain ⟨y300, hy300⟩ : ∃ y_ : List Int, y_ = (x12_5 ++ [x13_5]) := ⟨_, rfl⟩
                   replace H : (bitemporalref02_Tighten.l3 k5 a0 x7_9 x9_4 x10_3 x11_4 y300 (wrap64 (x13_5 + 1))) = some (r1, r2) := by first | (rw [hy300]; with_reducible exact H) | (have H2_ := (Option.bind_some _ _).symm.trans H; rw [hy300]; with_reducible exact H2_) | (have H2_ := (Option.bind_some _ _).symm.trans H; with_reducible exact H2_) | with_reducible exact H | (rw [hy300]; exact H) | exact H
                   have Ny300 := qq0.mk hy300
                   clear hy300
                   have H' := qq0.mk H
                   clear H
                   obtain ⟨Ao31, co31, eo31⟩ := Kd.R_slice HO_7.out
                   subst eo31
                   have p299 : 0 ≤ ((ji25) : Int) := of_decide_eq_true (by first | (with_reducible assumption) | assumption)
                   have q299 : (ji25) < (x7_9.length : Int) := of_decide_eq_true (by first | (with_reducible assumption) | assumption)
                   obtain ⟨ad299, e299, hx299_0⟩ := Kd.at_bool (Kd.R_reads' HO_7.out).2.2 (ji25) p299 q299
                   (try rw [← Nbq28.out] at hx299_0)
                   cases e299
                   replace p299 := eq_true p299
                   replace q299 := eq_true q299
                   go_wp2_with (first | ((with_reducible refine gate_builtin (b := .append) (xs := #[.tmp 71, .tmp 73]) rfl ?_); at_builtin; refine Kd.R_append (Kd.int .i64) (w0 := w) w.heap.size rfl (.tmp 71) (.tmp 73) 35 3 (.int .i64 0) 8 rfl Try.underlying35 info3 rfl (by decide) (by omega) u12 x12_5 x13_5 [.int .i64 x13_5] (fun _ => True) (fun _ => False) rfl rfl ?aP (fun _ hk => hk.elim) ?aF ?aO ?aB ?aS ?aL ?_; (case aP => exact rfl); (case aB => exact (by repeat (first | (with_reducible first | exact HB.out | apply qq3 | apply qq1 | apply qq2) | exact HB.out))); (case aF => exact (fun _ _ => trivial)); (case aO => exact (by (with_reducible repeat (first | apply Kd.R_alloc | apply Kd.R_drewN | apply Kd.R_drew)); exact HO_12.out)); (case aS => exact (qz2 (by repeat (first | (with_reducible first | exact HB.out | apply qq3 | apply qq1 | apply qq2) | exact HB.out)))); (case aL => have := LMc30.out; omega); intro v301 w32 ho hb hg hat; rw [← Ny300.out] at ho; have n0_ := qq0.mk (Kd.R_over' (by (with_reducible repeat (first | apply Kd.R_alloc | apply Kd.R_drewN | apply Kd.R_drew)); exact HO_7.out) (Kd.R_typed (by (with_reducible repeat (first | apply Kd.R_alloc | apply Kd.R_drewN | apply Kd.R_drew)); exact HO_12.out)) (by decide) hg); have n1_ := qq0.mk (Kd.S_after (ok := (fun _ => True)) (by (with_reducible repeat (first | apply Kd.S_alloc | apply Kd.S_drewN | apply Kd.S_drew)); exact Kd.S_mono HO_9.out (fun _ hk => ⟨trivial, hk⟩)) hg hat); have n2_ := qq0.mk (hb); have n3_ := qq0.mk (ho); clear HO_7; clear HO_9; clear HB; clear HO_12; have HO_7 := n0_; have HO_9 := n1_; have HB := n2_; have HO302 := n3_; clear n0_ n1_ n2_ n3_; clear ho hb hg hat))
                   go_roundg k5
                   case measure => have := HJ2.out; have := HJ9.out; have := HK3.out; have := HK4.out; have := HK5.out; omega
                   case rel => exact ⟨(y300), (wrap64 (x13_5 + 1)), (by first | rfl | (simp; done) | (simp [*]; done)), H', ⟨by have := HJ2.out; have := HJ9.out; have := HK3.out; have := HK4.out; have := HK5.out; omega⟩, ⟨by (with_reducible repeat (first | apply Kd.R_alloc | apply Kd.R_drewN | apply Kd.R_drew)); exact HO_7.out⟩, ⟨by (with_reducible repeat (first | apply Kd.S_alloc | apply Kd.S_drewN | apply Kd.S_drew)); exact Kd.S_mono HO_9.out (fun _ hk => hk.2)⟩, ⟨by (with_reducible repeat (first | apply Kd.R_alloc | apply Kd.R_drewN | apply Kd.R_drew)); exact HO302.out⟩, ⟨by repeat (first | (with_reducible first | exact HB.out | apply qq3 | apply qq1 | apply qq2) | exact HB.out)⟩⟩
                  ·rw [if_neg c30] at H
                   exact absurd H (by simp)
                 ·replace c29 := Bool.eq_false_iff.mpr c29
                  subst c29
                  have H1 : (bitemporalref02_Tighten.l3 k5 a0 x7_9 x9_4 x10_3 x11_4 x12_5 (wrap64 (x13_5 + 1))) = some (r1, r2) := by rw [if_neg (show ¬ (false = true) by decide)] at H; exact H
                  clear H
                  have H := H1
                  clear H1
                  have H' := qq0.mk H
                  clear H
                  obtain ⟨Ao33, co33, eo33⟩ := Kd.R_slice HO_7.out
                  subst eo33
                  have p299 : 0 ≤ ((ji25) : Int) := of_decide_eq_true (by first | (with_reducible assumption) | assumption)
                  have q299 : (ji25) < (x7_9.length : Int) := of_decide_eq_true (by first | (with_reducible assumption) | assumption)
                  obtain ⟨ad299, e299, hx299_0⟩ := Kd.at_bool (Kd.R_reads' HO_7.out).2.2 (ji25) p299 q299
                  (try rw [← Nbq28.out] at hx299_0)
                  cases e299
                  replace p299 := eq_true p299
                  replace q299 := eq_true q299
                  go_wp2
                  go_roundg k5
                  case measure => have := HJ2.out; have := HJ9.out; have := HK3.out; have := HK4.out; have := HK5.out; omega
                  case rel => exact ⟨(x12_5), (wrap64 (x13_5 + 1)), (by first | rfl | (simp; done) | (simp [*]; done)), H', ⟨by have := HJ2.out; have := HJ9.out; have := HK3.out; have := HK4.out; have := HK5.out; omega⟩, ⟨by (with_reducible repeat (first | apply Kd.R_alloc | apply Kd.R_drewN | apply Kd.R_drew)); exact HO_7.out⟩, ⟨by (with_reducible repeat (first | apply Kd.S_alloc | apply Kd.S_drewN | apply Kd.S_drew)); exact HO_9.out⟩, ⟨by (with_reducible repeat (first | apply Kd.R_alloc | apply Kd.R_drewN | apply Kd.R_drew)); exact HO_12.out⟩, ⟨by repeat (first | (with_reducible first | exact HB.out | apply qq3 | apply qq1 | apply qq2) | exact HB.out)⟩⟩
                ·rw [if_neg c27] at H
                 exact absurd H (by simp)
               ·rw [if_neg c26] at H
                exact absurd H (by simp)
              ·rw [if_neg c24] at H
               have c24b0 : decide (x13_5 < 13) = false := decide_eq_false c24
               clear c24
               by_cases c34 : (x12_5.length : Int) = 0
               ·rw [if_pos c34] at H
                have c34b0 : ((x12_5.length : Int) == 0) = true := beq_iff_eq.mpr c34
                have c34b1 : ((x12_5.length : Int) != 0) = false := bne_eq_false_iff_eq.mpr c34
                clear c34
                simp only [Option.some.injEq, Prod.mk.injEq] at H
                obtain ⟨rfl, rfl⟩ := H
                obtain ⟨Ao35, co35, eo35⟩ := Kd.R_slice HO_12.out
                subst eo35
                go_wp2
                go_ret2
                exact ⟨_, by first | rfl | (simp [qz5, qz4] <;> rfl) | (simp [*, qz5, qz4] <;> rfl), by first | exact Kd.S_nil _ _ _ _ _ | exact Kd.N_nil _ _ _ _ _ | exact Kd.V_nil _ _ _ _ _ | exact Kd.Q_nil _ _ _ _ _ | exact Kd.R_nil _ _ _ _ _, by repeat (first | (with_reducible first | exact HB.out | apply qq3 | apply qq1 | apply qq2) | exact HB.out)⟩
               ·rw [if_neg c34] at H
                have c34b0 : ((x12_5.length : Int) == 0) = false := beq_eq_false_iff_ne.mpr c34
                have c34b1 : ((x12_5.length : Int) != 0) = true := bne_iff_ne.mpr c34
                have c34b2 : ¬ (x12_5 = []) := fun h_ => c34 (by rw [h_]; rfl)
                by_cases c36 : x10_3 < x11_4
                ·rw [if_pos c36] at H
                 have c36b0 : decide (x10_3 < x11_4) = true := decide_eq_true c36
                 clear c36
                 by_cases c37 : x9_4.length < 3518437208883
                 ·rw [if_pos c37] at H
                  have LMc37 := qq0.mk c37
                  clear c37
                  obtain ⟨y303, hy303⟩ : ∃ y_ : List (S51), y_ = (x9_4 ++ [(⟨x10_3, x11_4, x12_5⟩ : S51)]) := ⟨_, rfl⟩
                  replace H : (bitemporalref02_Tighten.l2 k5 a0 x7_9 y303 x10_3 (wrap64 (x11_4 + 1))) = some (r1, r2) := by first | (rw [hy303]; with_reducible exact H) | (have H2_ := (Option.bind_some _ _).symm.trans H; rw [hy303]; with_reducible exact H2_) | (have H2_ := (Option.bind_some _ _).symm.trans H; with_reducible exact H2_) | with_reducible exact H | (rw [hy303]; exact H) | exact H
                  have Ny303 := qq0.mk hy303
                  clear hy303
                  have H' := qq0.mk H
                  clear H
                  obtain ⟨Ao38, co38, eo38⟩ := Kd.R_slice HO_12.out
                  subst eo38
                  go_wp2_with (first | ((with_reducible refine gate_builtin (b := .append) (xs := #[.tmp 81, .tmp 86]) rfl ?_); at_builtin; refine Kd.S_append k51 (w0 := w) w.heap.size rfl (.tmp 81) (.tmp 86) 40 51 (.agg #[(.int .i64 0), (.int .i64 0), (.slice none 0 0)]) 40 rfl Try.underlying40 info51 rfl (by decide) (by omega) u9 x9_4 (⟨x10_3, x11_4, x12_5⟩ : S51) [.int .i64 x10_3, .int .i64 x11_4, .slice Ao38 x12_5.length co38] (fun _ => True) (fun k_ => some k_ = (.slice Ao38 x12_5.length co38 : Value).ownBlock) rfl rfl ?aP (fun k_ hk_ => ((Kd.R_mono (ok' := fun k_ => ((fun _ => True)) k_ ∧ some k_ ≠ (u9 : Value).ownBlock) (Kd.R_apart' (HO_12.out) (Kd.S_typed HO_9.out) (by decide)) (fun k_ hk => ⟨trivial, hk.2⟩))).1 k_ hk_.symm) ?aF ?aO ?aB ?aS ?aL ?_; (case aP => exact k51_mkM _ _ _ (⟨x10_3, x11_4, x12_5⟩ : S51) (Kd.R_mono (Kd.R_tight rfl (Kd.R_mono (ok' := fun k_ => ((fun _ => True)) k_ ∧ some k_ ≠ (u9 : Value).ownBlock) (Kd.R_apart' (HO_12.out) (Kd.S_typed HO_9.out) (by decide)) (fun k_ hk => ⟨trivial, hk.2⟩))) (fun _ h_ => h_))); (case aB => exact (by repeat (first | (with_reducible first | exact HB.out | apply qq3 | apply qq1 | apply qq2) | exact HB.out))); (case aF => exact (fun _ _ => trivial)); (case aO => exact (by (with_reducible repeat (first | apply Kd.S_alloc | apply Kd.S_drewN | apply Kd.S_drew)); exact Kd.S_mono HO_9.out (fun k_ hk => ⟨trivial, fun e_ => hk e_⟩))); (case aS => exact (qz2 (by repeat (first | (with_reducible first | exact HB.out | apply qq3 | apply qq1 | apply qq2) | exact HB.out)))); (case aL => have := LMc37.out; omega); intro v304 w39 ho hb hg hat; rw [← Ny303.out] at ho; have n0_ := qq0.mk (Kd.R_over' (by (with_reducible repeat (first | apply Kd.R_alloc | apply Kd.R_drewN | apply Kd.R_drew)); exact HO_7.out) (Kd.S_typed (by (with_reducible repeat (first | apply Kd.S_alloc | apply Kd.S_drewN | apply Kd.S_drew)); exact HO_9.out)) (by decide) hg); have n1_ := qq0.mk (hb); have n2_ := qq0.mk (ho); clear HO_7; clear HB; clear HO_9; clear HO_12; have HO_7 := n0_; have HB := n1_; have HO305 := n2_; clear n0_ n1_ n2_; clear ho hb hg hat))
                  go_roundg k5
                  case measure => have := HJ2.out; have := HJ9.out; have := HK3.out; have := HK4.out; have := HK5.out; omega
                  case rel => exact ⟨(y303), (wrap64 (x11_4 + 1)), (by first | rfl | (simp; done) | (simp [*]; done)), H', ⟨by have := HJ2.out; have := HJ9.out; have := HK3.out; have := HK4.out; have := HK5.out; omega⟩, ⟨by (with_reducible repeat (first | apply Kd.R_alloc | apply Kd.R_drewN | apply Kd.R_drew)); exact HO_7.out⟩, ⟨by (with_reducible repeat (first | apply Kd.S_alloc | apply Kd.S_drewN | apply Kd.S_drew)); exact HO305.out⟩, ⟨by repeat (first | (with_reducible first | exact HB.out | apply qq3 | apply qq1 | apply qq2) | exact HB.out)⟩⟩
                 ·rw [if_neg c37] at H
                  exact absurd H (by simp)
                ·rw [if_neg c36] at H
                 have c36b0 : decide (x10_3 < x11_4) = false := decide_eq_false c36
                 clear c36
                 have H' := qq0.mk H
                 clear H
                 obtain ⟨Ao40, co40, eo40⟩ := Kd.R_slice HO_12.out
                 subst eo40
                 go_wp2
                 go_roundg k5
                 case measure => have := HJ2.out; have := HJ9.out; have := HK3.out; have := HK4.out; have := HK5.out; omega
                 case rel => exact ⟨(x9_4), (wrap64 (x11_4 + 1)), (by first | rfl | (simp; done) | (simp [*]; done)), H', ⟨by have := HJ2.out; have := HJ9.out; have := HK3.out; have := HK4.out; have := HK5.out; omega⟩, ⟨by (with_reducible repeat (first | apply Kd.R_alloc | apply Kd.R_drewN | apply Kd.R_drew)); exact HO_7.out⟩, ⟨by (with_reducible repeat (first | apply Kd.S_alloc | apply Kd.S_drewN | apply Kd.S_drew)); exact Kd.S_mono HO_9.out (fun _ hk => trivial)⟩, ⟨by repeat (first | (with_reducible first | exact HB.out | apply qq3 | apply qq1 | apply qq2) | exact HB.out)⟩⟩
           ·rw [if_neg c23] at H
            have c23b0 : decide (x11_4 < a0) = false := decide_eq_false c23
            clear c23
            have H' := qq0.mk H
            clear H
            go_wp2
            go_roundg k4
            case measure => have := HJ2.out; have := HJ9.out; have := HK3.out; have := HK4.out; omega
            case rel => exact ⟨(x9_4), (wrap64 (x10_3 + 1)), (by first | rfl | (simp; done) | (simp [*]; done)), H', ⟨by have := HJ2.out; have := HJ9.out; have := HK3.out; have := HK4.out; omega⟩, ⟨by (with_reducible repeat (first | apply Kd.R_alloc | apply Kd.R_drewN | apply Kd.R_drew)); exact HO_7.out⟩, ⟨by (with_reducible repeat (first | apply Kd.S_alloc | apply Kd.S_drewN | apply Kd.S_drew)); exact HO_9.out⟩, ⟨by repeat (first | (with_reducible first | exact HB.out | apply qq3 | apply qq1 | apply qq2) | exact HB.out)⟩⟩
        ·rw [if_neg c22] at H
         have c22b0 : decide (x10_3 < a0) = false := decide_eq_false c22
         clear c22
         simp only [Option.some.injEq, Prod.mk.injEq] at H
         obtain ⟨rfl, rfl⟩ := H
         go_wp2
         go_ret2
         exact ⟨_, by first | rfl | (simp [qz5, qz4] <;> rfl) | (simp [*, qz5, qz4] <;> rfl), by (with_reducible repeat (first | apply Kd.S_alloc | apply Kd.S_drewN | apply Kd.S_drew)); exact HO_9.out, by repeat (first | (with_reducible first | exact HB.out | apply qq3 | apply qq1 | apply qq2) | exact HB.out)⟩
end Go.Proofs.Ytoemcdkopnclbaa.A
