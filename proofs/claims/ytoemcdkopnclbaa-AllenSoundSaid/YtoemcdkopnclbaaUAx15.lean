-- Written by a program (given_print.py of this session, over the kit's print.py): all laws of the seat in one namespace, some functions proved by hand elsewhere. Lean checks it.
import Derived.Test.YtoemcdkopnclbaaUAx0
namespace Go.Proofs.Ytoemcdkopnclbaa.A
open Go.RowKit Go.Proofs.YtoemcdkopnclbaaW.PrintWords Go.Proofs.YtoemcdkopnclbaaW.PrintLast Go.Proofs.YtoemcdkopnclbaaW.PrintMore
attribute [local go_sem] max2_int min2_int max_two min_two max_three min_three max_four min_four
set_option linter.unusedVariables false
set_option linter.unusedSimpArgs false
mutual
def bitemporalref02_Valid.l0 : Nat → Int → List (S51) → Int → Option (Bool)
 | 0, _, _, _ => none
 | k + 1, x0, x1, x5 => if x5 < (x1.length : Int) then (if 0 ≤ x5 then (if ((rd_T51 x1 x5).f0) < 0 then (bitemporalref02_Valid.j1 k x0 x1 x5 true) else (if ((rd_T51 x1 x5).f0) ≥ x0 then (bitemporalref02_Valid.j1 k x0 x1 x5 true) else (if ((rd_T51 x1 x5).f1) < 0 then (bitemporalref02_Valid.j1 k x0 x1 x5 true) else (bitemporalref02_Valid.j1 k x0 x1 x5 (decide (((rd_T51 x1 x5).f1) ≥ x0)))))) else (none)) else (some true)
def bitemporalref02_Valid.j1 : Nat → Int → List (S51) → Int → Bool → Option (Bool)
 | 0, _, _, _, _ => none
 | k + 1, x0, x1, x5, x44 => if x44 = true then (some false) else (bitemporalref02_Valid.l1 k x0 x1 x5 0)
def bitemporalref02_Valid.l1 : Nat → Int → List (S51) → Int → Int → Option (Bool)
 | 0, _, _, _, _ => none
 | k + 1, x0, x1, x5, x6 => if 0 ≤ x5 then (if x5 < (x1.length : Int) then (if x6 < (((rd_T51 x1 x5).f2).length : Int) then (if 0 ≤ x6 then (if (rd ((rd_T51 x1 x5).f2) x6) < 0 then (some false) else (if (rd ((rd_T51 x1 x5).f2) x6) ≥ 13 then (some false) else (bitemporalref02_Valid.l1 k x0 x1 x5 (wrap64 (x6 + 1))))) else (none)) else (bitemporalref02_Valid.l0 k x0 x1 (wrap64 (x5 + 1)))) else (none)) else (none)
end
def bitemporalref02_Valid.f (k : Nat) (a0 : Int) (l1 : List (S51)) : Option (Bool) := bitemporalref02_Valid.l0 k a0 l1 0
set_option maxHeartbeats 8000000 in
set_option maxRecDepth 100000 in
theorem bitemporalref02_Valid.calls (k : Nat) (a0 : Int) (A1 : Option Addr) (c1 : Nat) (l1 : List (S51)) (r : Bool) (w : World) (hr1 : Kd.C k51 w A1 l1.length l1) (hc1 : l1.length ≤ c1) (h : bitemporalref02_Valid.f k a0 l1 = some r) :
  Calls Try.prog 39 #[.int .i64 a0, .slice A1 l1.length c1] w fun e w' => e = .returned (.bool r) ∧ Drawn0 w w' := by
 have HR1 := Aside0.mk hr1
 have HC1 := Aside0.mk hc1
 clear hr1 hc1
 have H : (bitemporalref02_Valid.l0 k a0 l1 0) = some r := h
 clear h
 have H' := Aside0.mk H
 clear H
 go_enter Try.func39, Try.ntmps39
 go_wp2
 go_loopg [5] k (fun kq v5 w' => ∃ (x5_1 : Int), v5 = .int .i64 x5_1 ∧ Aside0 (bitemporalref02_Valid.l0 kq a0 l1 x5_1 = some r) ∧ Aside0 (kq ≤ k) ∧ Drawn0 w w')
 case atStart => exact ⟨(0), (by first | rfl | (simp; done) | (simp [*]; done)), H', ⟨Nat.le_refl _⟩, by repeat (first | exact Drawn0.refl _ | apply Drawn0.step)⟩
 case round =>
  clear H'
  try clear c1
  try clear p2
  obtain ⟨x5_1, rfl, HA, HK1, ⟨m1, rfl⟩⟩ := hrel
  cases gk with
  | zero => exact absurd HA.out (by simp [bitemporalref02_Valid.l0])
  | succ k1 =>
   have H := HA.out
   clear HA
   simp only [bitemporalref02_Valid.l0] at H
   by_cases c3 : x5_1 < (l1.length : Int)
   ·rw [if_pos c3] at H
    have c3b0 : decide (x5_1 < (l1.length : Int)) = true := decide_eq_true c3
    clear c3
    have HC4 := Aside0.mk H
    clear H
    go_upto_region 4 with (fail)
    go_cut [44] (fun v44 wc => ∃ (kq : Nat) (x44_3 : Bool), v44 = .bool x44_3 ∧ Aside0 (bitemporalref02_Valid.j1 kq a0 l1 x5_1 x44_3 = some r) ∧ Aside0 (kq ≤ k1) ∧ Drawn0 w wc)
    case first =>
     have H := HC4.out
     clear HC4
     by_cases c5 : 0 ≤ x5_1
     ·rw [if_pos c5] at H
      have c5b0 : decide (0 ≤ x5_1) = true := decide_eq_true c5
      clear c5
      (first | rw [c5b0] | (simp only [i64_w, i32_w]; rw [c5b0]) | skip)
      by_cases c6 : ((rd_T51 l1 x5_1).f0) < 0
      ·rw [if_pos c6] at H
       have c6b0 : decide (((rd_T51 l1 x5_1).f0) < 0) = true := decide_eq_true c6
       clear c6
       have H' := Aside0.mk H
       clear H
       have p258 : 0 ≤ (x5_1 : Int) := of_decide_eq_true (by first | (with_reducible assumption) | assumption)
       have q258 : x5_1 < (l1.length : Int) := of_decide_eq_true (by first | (with_reducible assumption) | assumption)
       obtain ⟨ad258, A258_2, c258_2, e258, hx258_0, hx258_1, hx258_2, hl258_2, hi258_2⟩ := at_T51 HR1.out x5_1 p258 q258
       cases e258
       have HR258_2 := Aside0.mk hi258_2
       have HC258_2 := Aside0.mk hl258_2
       clear hi258_2 hl258_2
       replace p258 := eq_true p258
       replace q258 := eq_true q258
       go_wp2
       go_meet
       case rel => exact ⟨_, (true), (by first | rfl | (simp; done) | (simp [*]; done)), H', ⟨by have := HK1.out; first | omega | exact Nat.le_refl _⟩, by repeat (first | exact Drawn0.refl _ | apply Drawn0.step)⟩
      ·rw [if_neg c6] at H
       have c6b0 : decide (((rd_T51 l1 x5_1).f0) < 0) = false := decide_eq_false c6
       clear c6
       by_cases c7 : ((rd_T51 l1 x5_1).f0) ≥ a0
       ·rw [if_pos c7] at H
        have c7b0 : decide (a0 ≤ ((rd_T51 l1 x5_1).f0)) = true := decide_eq_true c7
        clear c7
        have H' := Aside0.mk H
        clear H
        have p258 : 0 ≤ (x5_1 : Int) := of_decide_eq_true (by first | (with_reducible assumption) | assumption)
        have q258 : x5_1 < (l1.length : Int) := of_decide_eq_true (by first | (with_reducible assumption) | assumption)
        obtain ⟨ad258, A258_2, c258_2, e258, hx258_0, hx258_1, hx258_2, hl258_2, hi258_2⟩ := at_T51 HR1.out x5_1 p258 q258
        cases e258
        have HR258_2 := Aside0.mk hi258_2
        have HC258_2 := Aside0.mk hl258_2
        clear hi258_2 hl258_2
        replace p258 := eq_true p258
        replace q258 := eq_true q258
        have p259 : 0 ≤ (x5_1 : Int) := of_decide_eq_true (by first | (with_reducible assumption) | assumption)
        have q259 : x5_1 < (l1.length : Int) := of_decide_eq_true (by first | (with_reducible assumption) | assumption)
        obtain ⟨ad259, A259_2, c259_2, e259, hx259_0, hx259_1, hx259_2, hl259_2, hi259_2⟩ := at_T51 HR1.out x5_1 p259 q259
        obtain rfl : ad258 = ad259 := (by injection e259)
        have HR259_2 := Aside0.mk hi259_2
        have HC259_2 := Aside0.mk hl259_2
        clear hi259_2 hl259_2
        replace p259 := eq_true p259
        replace q259 := eq_true q259
        have ea_ := Option.some.inj (hx258_2.symm.trans hx259_2)
        injection ea_ with ea_ en_ ec_
        subst ea_
        subst ec_
        clear en_
        go_wp2
        go_meet
        case rel => exact ⟨_, (true), (by first | rfl | (simp; done) | (simp [*]; done)), H', ⟨by have := HK1.out; first | omega | exact Nat.le_refl _⟩, by repeat (first | exact Drawn0.refl _ | apply Drawn0.step)⟩
       ·rw [if_neg c7] at H
        have c7b0 : decide (a0 ≤ ((rd_T51 l1 x5_1).f0)) = false := decide_eq_false c7
        clear c7
        by_cases c8 : ((rd_T51 l1 x5_1).f1) < 0
        ·rw [if_pos c8] at H
         have c8b0 : decide (((rd_T51 l1 x5_1).f1) < 0) = true := decide_eq_true c8
         clear c8
         have H' := Aside0.mk H
         clear H
         have p258 : 0 ≤ (x5_1 : Int) := of_decide_eq_true (by first | (with_reducible assumption) | assumption)
         have q258 : x5_1 < (l1.length : Int) := of_decide_eq_true (by first | (with_reducible assumption) | assumption)
         obtain ⟨ad258, A258_2, c258_2, e258, hx258_0, hx258_1, hx258_2, hl258_2, hi258_2⟩ := at_T51 HR1.out x5_1 p258 q258
         cases e258
         have HR258_2 := Aside0.mk hi258_2
         have HC258_2 := Aside0.mk hl258_2
         clear hi258_2 hl258_2
         replace p258 := eq_true p258
         replace q258 := eq_true q258
         have p259 : 0 ≤ (x5_1 : Int) := of_decide_eq_true (by first | (with_reducible assumption) | assumption)
         have q259 : x5_1 < (l1.length : Int) := of_decide_eq_true (by first | (with_reducible assumption) | assumption)
         obtain ⟨ad259, A259_2, c259_2, e259, hx259_0, hx259_1, hx259_2, hl259_2, hi259_2⟩ := at_T51 HR1.out x5_1 p259 q259
         obtain rfl : ad258 = ad259 := (by injection e259)
         have HR259_2 := Aside0.mk hi259_2
         have HC259_2 := Aside0.mk hl259_2
         clear hi259_2 hl259_2
         replace p259 := eq_true p259
         replace q259 := eq_true q259
         have ea_ := Option.some.inj (hx258_2.symm.trans hx259_2)
         injection ea_ with ea_ en_ ec_
         subst ea_
         subst ec_
         clear en_
         have p260 : 0 ≤ (x5_1 : Int) := of_decide_eq_true (by first | (with_reducible assumption) | assumption)
         have q260 : x5_1 < (l1.length : Int) := of_decide_eq_true (by first | (with_reducible assumption) | assumption)
         obtain ⟨ad260, A260_2, c260_2, e260, hx260_0, hx260_1, hx260_2, hl260_2, hi260_2⟩ := at_T51 HR1.out x5_1 p260 q260
         obtain rfl : ad258 = ad260 := (by injection e260)
         have HR260_2 := Aside0.mk hi260_2
         have HC260_2 := Aside0.mk hl260_2
         clear hi260_2 hl260_2
         replace p260 := eq_true p260
         replace q260 := eq_true q260
         have ea_ := Option.some.inj (hx258_2.symm.trans hx260_2)
         injection ea_ with ea_ en_ ec_
         subst ea_
         subst ec_
         clear en_
         go_wp2
         go_meet
         case rel => exact ⟨_, (true), (by first | rfl | (simp; done) | (simp [*]; done)), H', ⟨by have := HK1.out; first | omega | exact Nat.le_refl _⟩, by repeat (first | exact Drawn0.refl _ | apply Drawn0.step)⟩
        ·rw [if_neg c8] at H
         have c8b0 : decide (((rd_T51 l1 x5_1).f1) < 0) = false := decide_eq_false c8
         clear c8
         have H' := Aside0.mk H
         clear H
         have p258 : 0 ≤ (x5_1 : Int) := of_decide_eq_true (by first | (with_reducible assumption) | assumption)
         have q258 : x5_1 < (l1.length : Int) := of_decide_eq_true (by first | (with_reducible assumption) | assumption)
         obtain ⟨ad258, A258_2, c258_2, e258, hx258_0, hx258_1, hx258_2, hl258_2, hi258_2⟩ := at_T51 HR1.out x5_1 p258 q258
         cases e258
         have HR258_2 := Aside0.mk hi258_2
         have HC258_2 := Aside0.mk hl258_2
         clear hi258_2 hl258_2
         replace p258 := eq_true p258
         replace q258 := eq_true q258
         have p259 : 0 ≤ (x5_1 : Int) := of_decide_eq_true (by first | (with_reducible assumption) | assumption)
         have q259 : x5_1 < (l1.length : Int) := of_decide_eq_true (by first | (with_reducible assumption) | assumption)
         obtain ⟨ad259, A259_2, c259_2, e259, hx259_0, hx259_1, hx259_2, hl259_2, hi259_2⟩ := at_T51 HR1.out x5_1 p259 q259
         obtain rfl : ad258 = ad259 := (by injection e259)
         have HR259_2 := Aside0.mk hi259_2
         have HC259_2 := Aside0.mk hl259_2
         clear hi259_2 hl259_2
         replace p259 := eq_true p259
         replace q259 := eq_true q259
         have ea_ := Option.some.inj (hx258_2.symm.trans hx259_2)
         injection ea_ with ea_ en_ ec_
         subst ea_
         subst ec_
         clear en_
         have p260 : 0 ≤ (x5_1 : Int) := of_decide_eq_true (by first | (with_reducible assumption) | assumption)
         have q260 : x5_1 < (l1.length : Int) := of_decide_eq_true (by first | (with_reducible assumption) | assumption)
         obtain ⟨ad260, A260_2, c260_2, e260, hx260_0, hx260_1, hx260_2, hl260_2, hi260_2⟩ := at_T51 HR1.out x5_1 p260 q260
         obtain rfl : ad258 = ad260 := (by injection e260)
         have HR260_2 := Aside0.mk hi260_2
         have HC260_2 := Aside0.mk hl260_2
         clear hi260_2 hl260_2
         replace p260 := eq_true p260
         replace q260 := eq_true q260
         have ea_ := Option.some.inj (hx258_2.symm.trans hx260_2)
         injection ea_ with ea_ en_ ec_
         subst ea_
         subst ec_
         clear en_
         have p261 : 0 ≤ (x5_1 : Int) := of_decide_eq_true (by first | (with_reducible assumption) | assumption)
         have q261 : x5_1 < (l1.length : Int) := of_decide_eq_true (by first | (with_reducible assumption) | assumption)
         obtain ⟨ad261, A261_2, c261_2, e261, hx261_0, hx261_1, hx261_2, hl261_2, hi261_2⟩ := at_T51 HR1.out x5_1 p261 q261
         obtain rfl : ad258 = ad261 := (by injection e261)
         have HR261_2 := Aside0.mk hi261_2
         have HC261_2 := Aside0.mk hl261_2
         clear hi261_2 hl261_2
         replace p261 := eq_true p261
         replace q261 := eq_true q261
         have ea_ := Option.some.inj (hx258_2.symm.trans hx261_2)
         injection ea_ with ea_ en_ ec_
         subst ea_
         subst ec_
         clear en_
         go_wp2
         go_meet
         case rel => exact ⟨_, (decide (((rd_T51 l1 x5_1).f1) ≥ a0)), (by first | rfl | (simp; done) | (simp [*]; done)), H', ⟨by have := HK1.out; first | omega | exact Nat.le_refl _⟩, by repeat (first | exact Drawn0.refl _ | apply Drawn0.step)⟩
     ·rw [if_neg c5] at H
      exact absurd H (by simp)
    case rest =>
     clear HC4
     try clear c1
     try clear c2
     try clear p2
     try clear q2
     try clear hx2
     try clear c3
     try clear c3b0
     try clear c5
     try clear c5b0
     try clear c6
     try clear c6b0
     try clear c7
     try clear c7b0
     try clear c8
     try clear c8b0
     try clear hx258_0
     try clear hx258_1
     try clear hx258_2
     try clear hx259_0
     try clear hx259_1
     try clear hx259_2
     try clear hx260_0
     try clear hx260_1
     try clear hx260_2
     try clear hx261_0
     try clear hx261_1
     try clear hx261_2
     try clear p2
     try clear p258
     try clear p259
     try clear p260
     try clear p261
     try clear q258
     try clear q259
     try clear q260
     try clear q261
     obtain ⟨kq, x44_3, rfl, HA, HJ3, ⟨mc3, rfl⟩⟩ := hcut
     cases kq with
     | zero => exact absurd HA.out (by simp [bitemporalref02_Valid.j1])
     | succ kj3 =>
      have H := HA.out
      clear HA
      simp only [bitemporalref02_Valid.j1] at H
      by_cases c9 : x44_3 = true
      ·subst c9
       have H1 : (some false) = some r := by rw [if_pos rfl] at H; exact H
       clear H
       have H := H1
       clear H1
       obtain rfl := Option.some.inj H
       go_wp2
       go_ret
       exact ⟨by first | rfl | (simp; done) | (simp [*]; done), by repeat (first | exact Drawn0.refl _ | apply Drawn0.step)⟩
      ·replace c9 := Bool.eq_false_iff.mpr c9
       subst c9
       have H1 : (bitemporalref02_Valid.l1 kj3 a0 l1 x5_1 0) = some r := by rw [if_neg (show ¬ (false = true) by decide)] at H; exact H
       clear H
       have H := H1
       clear H1
       have H' := Aside0.mk H
       clear H
       go_wp2
       go_loopg [6] kj3 (fun kq v6 w' => ∃ (x6_3 : Int), v6 = .int .i64 x6_3 ∧ Aside0 (bitemporalref02_Valid.l1 kq a0 l1 x5_1 x6_3 = some r) ∧ Aside0 (kq ≤ kj3) ∧ Drawn0 w w')
       case atStart => exact ⟨(0), (by first | rfl | (simp; done) | (simp [*]; done)), H', ⟨Nat.le_refl _⟩, by repeat (first | exact Drawn0.refl _ | apply Drawn0.step)⟩
       case round =>
        clear H'
        try clear c1
        try clear c2
        try clear p2
        try clear q2
        try clear hx2
        try clear c3
        try clear c3b0
        try clear c5
        try clear c5b0
        try clear c6
        try clear c6b0
        try clear c7
        try clear c7b0
        try clear c8
        try clear c8b0
        try clear c9
        try clear hx258_0
        try clear hx258_1
        try clear hx258_2
        try clear hx259_0
        try clear hx259_1
        try clear hx259_2
        try clear hx260_0
        try clear hx260_1
        try clear hx260_2
        try clear hx261_0
        try clear hx261_1
        try clear hx261_2
        try clear p2
        try clear p258
        try clear p259
        try clear p260
        try clear p261
        try clear q2
        try clear q258
        try clear q259
        try clear q260
        try clear q261
        obtain ⟨x6_3, rfl, HA, HK3, ⟨m3, rfl⟩⟩ := hrel
        cases gk with
        | zero => exact absurd HA.out (by simp [bitemporalref02_Valid.l1])
        | succ k3 =>
         have H := HA.out
         clear HA
         simp only [bitemporalref02_Valid.l1] at H
         by_cases c10 : 0 ≤ x5_1
         ·rw [if_pos c10] at H
          have c10b0 : decide (0 ≤ x5_1) = true := decide_eq_true c10
          clear c10
          by_cases c11 : x5_1 < (l1.length : Int)
          ·rw [if_pos c11] at H
           have c11b0 : decide (x5_1 < (l1.length : Int)) = true := decide_eq_true c11
           clear c11
           by_cases c12 : x6_3 < (((rd_T51 l1 x5_1).f2).length : Int)
           ·rw [if_pos c12] at H
            have c12b0 : decide (x6_3 < (((rd_T51 l1 x5_1).f2).length : Int)) = true := decide_eq_true c12
            clear c12
            by_cases c13 : 0 ≤ x6_3
            ·rw [if_pos c13] at H
             have c13b0 : decide (0 ≤ x6_3) = true := decide_eq_true c13
             clear c13
             by_cases c14 : (rd ((rd_T51 l1 x5_1).f2) x6_3) < 0
             ·rw [if_pos c14] at H
              have c14b0 : decide ((rd ((rd_T51 l1 x5_1).f2) x6_3) < 0) = true := decide_eq_true c14
              clear c14
              obtain rfl := Option.some.inj H
              have p262 : 0 ≤ (x5_1 : Int) := of_decide_eq_true (by first | (with_reducible assumption) | assumption)
              have q262 : x5_1 < (l1.length : Int) := of_decide_eq_true (by first | (with_reducible assumption) | assumption)
              obtain ⟨ad262, A262_2, c262_2, e262, hx262_0, hx262_1, hx262_2, hl262_2, hi262_2⟩ := at_T51 HR1.out x5_1 p262 q262
              cases e262
              have HR262_2 := Aside0.mk hi262_2
              have HC262_2 := Aside0.mk hl262_2
              clear hi262_2 hl262_2
              replace p262 := eq_true p262
              replace q262 := eq_true q262
              have p263 : 0 ≤ (x5_1 : Int) := of_decide_eq_true (by first | (with_reducible assumption) | assumption)
              have q263 : x5_1 < (l1.length : Int) := of_decide_eq_true (by first | (with_reducible assumption) | assumption)
              obtain ⟨ad263, A263_2, c263_2, e263, hx263_0, hx263_1, hx263_2, hl263_2, hi263_2⟩ := at_T51 HR1.out x5_1 p263 q263
              obtain rfl : ad262 = ad263 := (by injection e263)
              have HR263_2 := Aside0.mk hi263_2
              have HC263_2 := Aside0.mk hl263_2
              clear hi263_2 hl263_2
              replace p263 := eq_true p263
              replace q263 := eq_true q263
              have ea_ := Option.some.inj (hx262_2.symm.trans hx263_2)
              injection ea_ with ea_ en_ ec_
              subst ea_
              subst ec_
              clear en_
              have p264 : 0 ≤ (x6_3 : Int) := of_decide_eq_true (by first | (with_reducible assumption) | assumption)
              have q264 : x6_3 < (((rd_T51 l1 x5_1).f2).length : Int) := of_decide_eq_true (by first | (with_reducible assumption) | assumption)
              obtain ⟨ad264, e264, hx264_0⟩ := Kd.at_int HR263_2.out x6_3 p264 q264
              cases e264
              replace p264 := eq_true p264
              replace q264 := eq_true q264
              go_wp2
              go_ret
              exact ⟨by first | rfl | (simp; done) | (simp [*]; done), by repeat (first | exact Drawn0.refl _ | apply Drawn0.step)⟩
             ·rw [if_neg c14] at H
              have c14b0 : decide ((rd ((rd_T51 l1 x5_1).f2) x6_3) < 0) = false := decide_eq_false c14
              clear c14
              by_cases c15 : (rd ((rd_T51 l1 x5_1).f2) x6_3) ≥ 13
              ·rw [if_pos c15] at H
               have c15b0 : decide (13 ≤ (rd ((rd_T51 l1 x5_1).f2) x6_3)) = true := decide_eq_true c15
               clear c15
               obtain rfl := Option.some.inj H
               have p262 : 0 ≤ (x5_1 : Int) := of_decide_eq_true (by first | (with_reducible assumption) | assumption)
               have q262 : x5_1 < (l1.length : Int) := of_decide_eq_true (by first | (with_reducible assumption) | assumption)
               obtain ⟨ad262, A262_2, c262_2, e262, hx262_0, hx262_1, hx262_2, hl262_2, hi262_2⟩ := at_T51 HR1.out x5_1 p262 q262
               cases e262
               have HR262_2 := Aside0.mk hi262_2
               have HC262_2 := Aside0.mk hl262_2
               clear hi262_2 hl262_2
               replace p262 := eq_true p262
               replace q262 := eq_true q262
               have p263 : 0 ≤ (x5_1 : Int) := of_decide_eq_true (by first | (with_reducible assumption) | assumption)
               have q263 : x5_1 < (l1.length : Int) := of_decide_eq_true (by first | (with_reducible assumption) | assumption)
               obtain ⟨ad263, A263_2, c263_2, e263, hx263_0, hx263_1, hx263_2, hl263_2, hi263_2⟩ := at_T51 HR1.out x5_1 p263 q263
               obtain rfl : ad262 = ad263 := (by injection e263)
               have HR263_2 := Aside0.mk hi263_2
               have HC263_2 := Aside0.mk hl263_2
               clear hi263_2 hl263_2
               replace p263 := eq_true p263
               replace q263 := eq_true q263
               have ea_ := Option.some.inj (hx262_2.symm.trans hx263_2)
               injection ea_ with ea_ en_ ec_
               subst ea_
               subst ec_
               clear en_
               have p264 : 0 ≤ (x6_3 : Int) := of_decide_eq_true (by first | (with_reducible assumption) | assumption)
               have q264 : x6_3 < (((rd_T51 l1 x5_1).f2).length : Int) := of_decide_eq_true (by first | (with_reducible assumption) | assumption)
               obtain ⟨ad264, e264, hx264_0⟩ := Kd.at_int HR263_2.out x6_3 p264 q264
               cases e264
               replace p264 := eq_true p264
               replace q264 := eq_true q264
               have p265 : 0 ≤ (x5_1 : Int) := of_decide_eq_true (by first | (with_reducible assumption) | assumption)
               have q265 : x5_1 < (l1.length : Int) := of_decide_eq_true (by first | (with_reducible assumption) | assumption)
               obtain ⟨ad265, A265_2, c265_2, e265, hx265_0, hx265_1, hx265_2, hl265_2, hi265_2⟩ := at_T51 HR1.out x5_1 p265 q265
               obtain rfl : ad262 = ad265 := (by injection e265)
               have HR265_2 := Aside0.mk hi265_2
               have HC265_2 := Aside0.mk hl265_2
               clear hi265_2 hl265_2
               replace p265 := eq_true p265
               replace q265 := eq_true q265
               have ea_ := Option.some.inj (hx262_2.symm.trans hx265_2)
               injection ea_ with ea_ en_ ec_
               subst ea_
               subst ec_
               clear en_
               have p266 : 0 ≤ (x6_3 : Int) := of_decide_eq_true (by first | (with_reducible assumption) | assumption)
               have q266 : x6_3 < (((rd_T51 l1 x5_1).f2).length : Int) := of_decide_eq_true (by first | (with_reducible assumption) | assumption)
               obtain ⟨ad266, e266, hx266_0⟩ := Kd.at_int HR265_2.out x6_3 p266 q266
               cases e266
               replace p266 := eq_true p266
               replace q266 := eq_true q266
               go_wp2
               go_ret
               exact ⟨by first | rfl | (simp; done) | (simp [*]; done), by repeat (first | exact Drawn0.refl _ | apply Drawn0.step)⟩
              ·rw [if_neg c15] at H
               have c15b0 : decide (13 ≤ (rd ((rd_T51 l1 x5_1).f2) x6_3)) = false := decide_eq_false c15
               clear c15
               have H' := Aside0.mk H
               clear H
               have p262 : 0 ≤ (x5_1 : Int) := of_decide_eq_true (by first | (with_reducible assumption) | assumption)
               have q262 : x5_1 < (l1.length : Int) := of_decide_eq_true (by first | (with_reducible assumption) | assumption)
               obtain ⟨ad262, A262_2, c262_2, e262, hx262_0, hx262_1, hx262_2, hl262_2, hi262_2⟩ := at_T51 HR1.out x5_1 p262 q262
               cases e262
               have HR262_2 := Aside0.mk hi262_2
               have HC262_2 := Aside0.mk hl262_2
               clear hi262_2 hl262_2
               replace p262 := eq_true p262
               replace q262 := eq_true q262
               have p263 : 0 ≤ (x5_1 : Int) := of_decide_eq_true (by first | (with_reducible assumption) | assumption)
               have q263 : x5_1 < (l1.length : Int) := of_decide_eq_true (by first | (with_reducible assumption) | assumption)
               obtain ⟨ad263, A263_2, c263_2, e263, hx263_0, hx263_1, hx263_2, hl263_2, hi263_2⟩ := at_T51 HR1.out x5_1 p263 q263
               obtain rfl : ad262 = ad263 := (by injection e263)
               have HR263_2 := Aside0.mk hi263_2
               have HC263_2 := Aside0.mk hl263_2
               clear hi263_2 hl263_2
               replace p263 := eq_true p263
               replace q263 := eq_true q263
               have ea_ := Option.some.inj (hx262_2.symm.trans hx263_2)
               injection ea_ with ea_ en_ ec_
               subst ea_
               subst ec_
               clear en_
               have p264 : 0 ≤ (x6_3 : Int) := of_decide_eq_true (by first | (with_reducible assumption) | assumption)
               have q264 : x6_3 < (((rd_T51 l1 x5_1).f2).length : Int) := of_decide_eq_true (by first | (with_reducible assumption) | assumption)
               obtain ⟨ad264, e264, hx264_0⟩ := Kd.at_int HR263_2.out x6_3 p264 q264
               cases e264
               replace p264 := eq_true p264
               replace q264 := eq_true q264
               have p265 : 0 ≤ (x5_1 : Int) := of_decide_eq_true (by first | (with_reducible assumption) | assumption)
               have q265 : x5_1 < (l1.length : Int) := of_decide_eq_true (by first | (with_reducible assumption) | assumption)
               obtain ⟨ad265, A265_2, c265_2, e265, hx265_0, hx265_1, hx265_2, hl265_2, hi265_2⟩ := at_T51 HR1.out x5_1 p265 q265
               obtain rfl : ad262 = ad265 := (by injection e265)
               have HR265_2 := Aside0.mk hi265_2
               have HC265_2 := Aside0.mk hl265_2
               clear hi265_2 hl265_2
               replace p265 := eq_true p265
               replace q265 := eq_true q265
               have ea_ := Option.some.inj (hx262_2.symm.trans hx265_2)
               injection ea_ with ea_ en_ ec_
               subst ea_
               subst ec_
               clear en_
               have p266 : 0 ≤ (x6_3 : Int) := of_decide_eq_true (by first | (with_reducible assumption) | assumption)
               have q266 : x6_3 < (((rd_T51 l1 x5_1).f2).length : Int) := of_decide_eq_true (by first | (with_reducible assumption) | assumption)
               obtain ⟨ad266, e266, hx266_0⟩ := Kd.at_int HR265_2.out x6_3 p266 q266
               cases e266
               replace p266 := eq_true p266
               replace q266 := eq_true q266
               go_wp2
               go_roundg k3
               case measure => have := HK1.out; have := HJ3.out; have := HK3.out; omega
               case rel => exact ⟨(wrap64 (x6_3 + 1)), (by first | rfl | (simp; done) | (simp [*]; done)), H', ⟨by have := HK1.out; have := HJ3.out; have := HK3.out; omega⟩, by repeat (first | exact Drawn0.refl _ | apply Drawn0.step)⟩
            ·rw [if_neg c13] at H
             exact absurd H (by simp)
           ·rw [if_neg c12] at H
            have c12b0 : decide (x6_3 < (((rd_T51 l1 x5_1).f2).length : Int)) = false := decide_eq_false c12
            clear c12
            have H' := Aside0.mk H
            clear H
            have p262 : 0 ≤ (x5_1 : Int) := of_decide_eq_true (by first | (with_reducible assumption) | assumption)
            have q262 : x5_1 < (l1.length : Int) := of_decide_eq_true (by first | (with_reducible assumption) | assumption)
            obtain ⟨ad262, A262_2, c262_2, e262, hx262_0, hx262_1, hx262_2, hl262_2, hi262_2⟩ := at_T51 HR1.out x5_1 p262 q262
            cases e262
            have HR262_2 := Aside0.mk hi262_2
            have HC262_2 := Aside0.mk hl262_2
            clear hi262_2 hl262_2
            replace p262 := eq_true p262
            replace q262 := eq_true q262
            go_wp2
            go_roundg k3
            case measure => have := HK1.out; have := HJ3.out; have := HK3.out; omega
            case rel => exact ⟨(wrap64 (x5_1 + 1)), (by first | rfl | (simp; done) | (simp [*]; done)), H', ⟨by have := HK1.out; have := HJ3.out; have := HK3.out; omega⟩, by repeat (first | exact Drawn0.refl _ | apply Drawn0.step)⟩
          ·rw [if_neg c11] at H
           exact absurd H (by simp)
         ·rw [if_neg c10] at H
          exact absurd H (by simp)
   ·rw [if_neg c3] at H
    have c3b0 : decide (x5_1 < (l1.length : Int)) = false := decide_eq_false c3
    clear c3
    obtain rfl := Option.some.inj H
    go_wp2
    go_ret
    exact ⟨by first | rfl | (simp; done) | (simp [*]; done), by repeat (first | exact Drawn0.refl _ | apply Drawn0.step)⟩
def bitemporalref02_in.l0 : Nat → List Int → Int → Int → Option (Bool)
 | 0, _, _, _ => none
 | k + 1, x0, x1, x5 => if x5 < (x0.length : Int) then (if 0 ≤ x5 then (if (rd x0 x5) = x1 then (some true) else (bitemporalref02_in.l0 k x0 x1 (wrap64 (x5 + 1)))) else (none)) else (some false)
def bitemporalref02_in.f (k : Nat) (l0 : List Int) (a1 : Int) : Option (Bool) := bitemporalref02_in.l0 k l0 a1 0
set_option maxHeartbeats 8000000 in
set_option maxRecDepth 100000 in
theorem bitemporalref02_in.calls (k : Nat) (A0 : Option Addr) (c0 : Nat) (l0 : List Int) (a1 : Int) (r : Bool) (w : World) (hr0 : Kd.C (Kd.int .i64) w A0 l0.length l0) (hc0 : l0.length ≤ c0) (h : bitemporalref02_in.f k l0 a1 = some r) :
  Calls Try.prog 45 #[.slice A0 l0.length c0, .int .i64 a1] w fun e w' => e = .returned (.bool r) ∧ Drawn0 w w' := by
 have HR0 := Aside0.mk hr0
 have HC0 := Aside0.mk hc0
 clear hr0 hc0
 have H : (bitemporalref02_in.l0 k l0 a1 0) = some r := h
 clear h
 have H' := Aside0.mk H
 clear H
 go_enter Try.func45, Try.ntmps45
 go_wp2
 go_loopg [5] k (fun kq v5 w' => ∃ (x5_1 : Int), v5 = .int .i64 x5_1 ∧ Aside0 (bitemporalref02_in.l0 kq l0 a1 x5_1 = some r) ∧ Aside0 (kq ≤ k) ∧ Drawn0 w w')
 case atStart => exact ⟨(0), (by first | rfl | (simp; done) | (simp [*]; done)), H', ⟨Nat.le_refl _⟩, by repeat (first | exact Drawn0.refl _ | apply Drawn0.step)⟩
 case round =>
  clear H'
  try clear p2
  obtain ⟨x5_1, rfl, HA, HK1, ⟨m1, rfl⟩⟩ := hrel
  cases gk with
  | zero => exact absurd HA.out (by simp [bitemporalref02_in.l0])
  | succ k1 =>
   have H := HA.out
   clear HA
   simp only [bitemporalref02_in.l0] at H
   by_cases c3 : x5_1 < (l0.length : Int)
   ·rw [if_pos c3] at H
    have c3b0 : decide (x5_1 < (l0.length : Int)) = true := decide_eq_true c3
    clear c3
    by_cases c4 : 0 ≤ x5_1
    ·rw [if_pos c4] at H
     have c4b0 : decide (0 ≤ x5_1) = true := decide_eq_true c4
     clear c4
     by_cases c5 : (rd l0 x5_1) = a1
     ·rw [if_pos c5] at H
      have c5b0 : ((rd l0 x5_1) == a1) = true := beq_iff_eq.mpr c5
      have c5b1 : ((rd l0 x5_1) != a1) = false := bne_eq_false_iff_eq.mpr c5
      clear c5
      obtain rfl := Option.some.inj H
      have p267 : 0 ≤ (x5_1 : Int) := of_decide_eq_true (by first | (with_reducible assumption) | assumption)
      have q267 : x5_1 < (l0.length : Int) := of_decide_eq_true (by first | (with_reducible assumption) | assumption)
      obtain ⟨ad267, e267, hx267_0⟩ := Kd.at_int HR0.out x5_1 p267 q267
      cases e267
      replace p267 := eq_true p267
      replace q267 := eq_true q267
      go_wp2
      go_ret
      exact ⟨by first | rfl | (simp; done) | (simp [*]; done), by repeat (first | exact Drawn0.refl _ | apply Drawn0.step)⟩
     ·rw [if_neg c5] at H
      have c5b0 : ((rd l0 x5_1) == a1) = false := beq_eq_false_iff_ne.mpr c5
      have c5b1 : ((rd l0 x5_1) != a1) = true := bne_iff_ne.mpr c5
      have H' := Aside0.mk H
      clear H
      have p267 : 0 ≤ (x5_1 : Int) := of_decide_eq_true (by first | (with_reducible assumption) | assumption)
      have q267 : x5_1 < (l0.length : Int) := of_decide_eq_true (by first | (with_reducible assumption) | assumption)
      obtain ⟨ad267, e267, hx267_0⟩ := Kd.at_int HR0.out x5_1 p267 q267
      cases e267
      replace p267 := eq_true p267
      replace q267 := eq_true q267
      go_wp2
      go_roundg k1
      case measure => have := HK1.out; omega
      case rel => exact ⟨(wrap64 (x5_1 + 1)), (by first | rfl | (simp; done) | (simp [*]; done)), H', ⟨by have := HK1.out; omega⟩, by repeat (first | exact Drawn0.refl _ | apply Drawn0.step)⟩
    ·rw [if_neg c4] at H
     exact absurd H (by simp)
   ·rw [if_neg c3] at H
    have c3b0 : decide (x5_1 < (l0.length : Int)) = false := decide_eq_false c3
    clear c3
    obtain rfl := Option.some.inj H
    go_wp2
    go_ret
    exact ⟨by first | rfl | (simp; done) | (simp [*]; done), by repeat (first | exact Drawn0.refl _ | apply Drawn0.step)⟩
end Go.Proofs.Ytoemcdkopnclbaa.A
