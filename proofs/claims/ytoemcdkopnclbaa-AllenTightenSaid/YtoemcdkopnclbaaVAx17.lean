-- Written by a program (given_print.py of this session, over the kit's print.py): all laws of the seat in one namespace, some functions proved by hand elsewhere. Lean checks it.
import Derived.Test.YtoemcdkopnclbaaVAx0
import Derived.Test.YtoemcdkopnclbaaVAx11
namespace Go.Proofs.Ytoemcdkopnclbaa.A
open Go.RowKit Go.Proofs.YtoemcdkopnclbaaW.PrintWords Go.Proofs.YtoemcdkopnclbaaW.PrintLast Go.Proofs.YtoemcdkopnclbaaW.PrintMore
attribute [local go_sem] max2_int min2_int max_two min_two max_three min_three max_four min_four
set_option linter.unusedVariables false
set_option linter.unusedSimpArgs false
mutual
def bitemporalref02_possible.l0 : Nat → List Bool → List Bool → Int → Int → Int → Int → Int → Int → Option (Bool)
 | 0, _, _, _, _, _, _, _, _ => none
 | k + 1, x0, x1, x2, x3, x4, x5, x6, x15 => if x15 < 13 then (if 0 ≤ (wrap64 ((wrap64 (13 * (wrap64 ((wrap64 (x2 * x3)) + x5)))) + x15)) then (if (wrap64 ((wrap64 (13 * (wrap64 ((wrap64 (x2 * x3)) + x5)))) + x15)) < (x1.length : Int) then (if (rdOf false x1 (wrap64 ((wrap64 (13 * (wrap64 ((wrap64 (x2 * x3)) + x5)))) + x15)) = true) then (bitemporalref02_possible.l1 k x0 x1 x2 x3 x4 x5 x6 x15 0) else (bitemporalref02_possible.l0 k x0 x1 x2 x3 x4 x5 x6 (wrap64 (x15 + 1)))) else (none)) else (none)) else (some false)
def bitemporalref02_possible.l1 : Nat → List Bool → List Bool → Int → Int → Int → Int → Int → Int → Int → Option (Bool)
 | 0, _, _, _, _, _, _, _, _, _ => none
 | k + 1, x0, x1, x2, x3, x4, x5, x6, x15, x16 => if x16 < 13 then (if 0 ≤ (wrap64 ((wrap64 (13 * (wrap64 ((wrap64 (x2 * x5)) + x4)))) + x16)) then (if (wrap64 ((wrap64 (13 * (wrap64 ((wrap64 (x2 * x5)) + x4)))) + x16)) < (x1.length : Int) then (if rdOf false x1 (wrap64 ((wrap64 (13 * (wrap64 ((wrap64 (x2 * x5)) + x4)))) + x16)) = true then (if 0 ≤ (wrap64 ((wrap64 ((wrap64 (169 * x15)) + (wrap64 (13 * x16)))) + x6)) then (if (wrap64 ((wrap64 ((wrap64 (169 * x15)) + (wrap64 (13 * x16)))) + x6)) < (x0.length : Int) then (if rdOf false x0 (wrap64 ((wrap64 ((wrap64 (169 * x15)) + (wrap64 (13 * x16)))) + x6)) = true then (some true) else (bitemporalref02_possible.l1 k x0 x1 x2 x3 x4 x5 x6 x15 (wrap64 (x16 + 1)))) else (none)) else (none)) else (bitemporalref02_possible.l1 k x0 x1 x2 x3 x4 x5 x6 x15 (wrap64 (x16 + 1)))) else (none)) else (none)) else (bitemporalref02_possible.l0 k x0 x1 x2 x3 x4 x5 x6 (wrap64 (x15 + 1)))
end
def bitemporalref02_possible.f (k : Nat) (l0 : List Bool) (l1 : List Bool) (a2 : Int) (a3 : Int) (a4 : Int) (a5 : Int) (a6 : Int) : Option (Bool) := bitemporalref02_possible.l0 k l0 l1 a2 a3 a4 a5 a6 0
set_option maxHeartbeats 8000000 in
set_option maxRecDepth 100000 in
theorem bitemporalref02_possible.calls (k : Nat) (A0 : Option Addr) (c0 : Nat) (l0 : List Bool) (A1 : Option Addr) (c1 : Nat) (l1 : List Bool) (a2 : Int) (a3 : Int) (a4 : Int) (a5 : Int) (a6 : Int) (r : Bool) (w : World) (hr0 : Kd.C Kd.bool w A0 l0.length l0) (hc0 : l0.length ≤ c0) (hr1 : Kd.C Kd.bool w A1 l1.length l1) (hc1 : l1.length ≤ c1) (h : bitemporalref02_possible.f k l0 l1 a2 a3 a4 a5 a6 = some r) :
  Calls Try.prog 53 #[.slice A0 l0.length c0, .slice A1 l1.length c1, .int .i64 a2, .int .i64 a3, .int .i64 a4, .int .i64 a5, .int .i64 a6] w fun e w' => e = .returned (.bool r) ∧ Drawn0 w w' := by
 have HR0 := qq0.mk hr0
 have HC0 := qq0.mk hc0
 clear hr0 hc0
 have HR1 := qq0.mk hr1
 have HC1 := qq0.mk hc1
 clear hr1 hc1
 have H : (bitemporalref02_possible.l0 k l0 l1 a2 a3 a4 a5 a6 0) = some r := h
 clear h
 have H' := qq0.mk H
 clear H
 go_enter Try.func53, Try.ntmps53
 go_wp2
 go_loopg [15] k (fun kq v15 w' => ∃ (x15_1 : Int), v15 = .int .i64 x15_1 ∧ qq0 (bitemporalref02_possible.l0 kq l0 l1 a2 a3 a4 a5 a6 x15_1 = some r) ∧ qq0 (kq ≤ k) ∧ Drawn0 w w')
 case atStart => exact ⟨(0), (by first | rfl | (simp; done) | (simp [*]; done)), H', ⟨Nat.le_refl _⟩, by repeat (first | exact Drawn0.refl _ | apply Drawn0.step)⟩
 case round =>
  clear H'
  try clear c1
  try clear p2
  try clear c5
  obtain ⟨x15_1, rfl, HA, HK1, ⟨m1, rfl⟩⟩ := hrel
  cases gk with
  | zero => exact absurd HA.out (by simp [bitemporalref02_possible.l0])
  | succ k1 =>
   have H := HA.out
   clear HA
   simp only [bitemporalref02_possible.l0] at H
   by_cases c8 : x15_1 < 13
   ·rw [if_pos c8] at H
    have c8b0 : decide (x15_1 < 13) = true := decide_eq_true c8
    clear c8
    obtain ⟨ji9, hji9⟩ : ∃ j_ : Int, (wrap64 ((wrap64 (13 * (wrap64 ((wrap64 (a2 * a3)) + a5)))) + x15_1)) = j_ := ⟨_, rfl⟩
    replace H : (if 0 ≤ (ji9) then (if (ji9) < (l1.length : Int) then (if (rdOf false l1 (ji9) = true) then (bitemporalref02_possible.l1 k1 l0 l1 a2 a3 a4 a5 a6 x15_1 0) else (bitemporalref02_possible.l0 k1 l0 l1 a2 a3 a4 a5 a6 (wrap64 (x15_1 + 1)))) else (none)) else (none)) = some r := by first | (rw [hji9] at H; exact H) | (simp only [hji9] at H ⊢; exact H)
    have hji9w : (IntKind.i64.wrap ((wrap64 (13 * (wrap64 ((wrap64 (a2 * a3)) + a5)))) + x15_1)) = ji9 := (i64_w _).trans hji9
    by_cases c10 : 0 ≤ (ji9)
    ·rw [if_pos c10] at H
     have c10b0 : decide (0 ≤ (ji9)) = true := decide_eq_true c10
     clear c10
     by_cases c11 : (ji9) < (l1.length : Int)
     ·rw [if_pos c11] at H
      have c11b0 : decide ((ji9) < (l1.length : Int)) = true := decide_eq_true c11
      clear c11
      obtain ⟨bq12, hbq12⟩ : ∃ b_ : Bool, b_ = (rdOf false l1 (ji9)) := ⟨_, rfl⟩
      replace H : (if (bq12 = true) then (bitemporalref02_possible.l1 k1 l0 l1 a2 a3 a4 a5 a6 x15_1 0) else (bitemporalref02_possible.l0 k1 l0 l1 a2 a3 a4 a5 a6 (wrap64 (x15_1 + 1)))) = some r := by rw [← hbq12] at H; exact H
      have Nbq12 := qq0.mk hbq12
      clear hbq12
      by_cases c13 : (bq12 = true)
      ·subst c13
       have H1 : (bitemporalref02_possible.l1 k1 l0 l1 a2 a3 a4 a5 a6 x15_1 0) = some r := by rw [if_pos rfl] at H; exact H
       clear H
       have H := H1
       clear H1
       have H' := qq0.mk H
       clear H
       have p282 : 0 ≤ ((ji9) : Int) := of_decide_eq_true (by first | (with_reducible assumption) | assumption)
       have q282 : (ji9) < (l1.length : Int) := of_decide_eq_true (by first | (with_reducible assumption) | assumption)
       obtain ⟨ad282, e282, hx282_0⟩ := Kd.at_bool HR1.out (ji9) p282 q282
       (try rw [← Nbq12.out] at hx282_0)
       cases e282
       replace p282 := eq_true p282
       replace q282 := eq_true q282
       go_wp2
       go_loopg [16] k1 (fun kq v16 w' => ∃ (x16_2 : Int), v16 = .int .i64 x16_2 ∧ qq0 (bitemporalref02_possible.l1 kq l0 l1 a2 a3 a4 a5 a6 x15_1 x16_2 = some r) ∧ qq0 (kq ≤ k1) ∧ Drawn0 w w')
       case atStart => exact ⟨(0), (by first | rfl | (simp; done) | (simp [*]; done)), H', ⟨Nat.le_refl _⟩, by repeat (first | exact Drawn0.refl _ | apply Drawn0.step)⟩
       case round =>
        clear H'
        try clear c1
        try clear q1
        try clear p2
        try clear q2
        try clear hx2
        try clear c5
        try clear p6
        try clear c8
        try clear c8b0
        try clear c10
        try clear c10b0
        try clear c11
        try clear c11b0
        try clear q12
        try clear c13
        try clear hx282_0
        try clear p2
        try clear p282
        try clear q282
        obtain ⟨x16_2, rfl, HA, HK2, ⟨m2, rfl⟩⟩ := hrel
        cases gk with
        | zero => exact absurd HA.out (by simp [bitemporalref02_possible.l1])
        | succ k2 =>
         have H := HA.out
         clear HA
         simp only [bitemporalref02_possible.l1] at H
         by_cases c14 : x16_2 < 13
         ·rw [if_pos c14] at H
          have c14b0 : decide (x16_2 < 13) = true := decide_eq_true c14
          clear c14
          obtain ⟨ji15, hji15⟩ : ∃ j_ : Int, (wrap64 ((wrap64 (13 * (wrap64 ((wrap64 (a2 * a5)) + a4)))) + x16_2)) = j_ := ⟨_, rfl⟩
          replace H : (if 0 ≤ (ji15) then (if (ji15) < (l1.length : Int) then (if rdOf false l1 (ji15) = true then (if 0 ≤ (wrap64 ((wrap64 ((wrap64 (169 * x15_1)) + (wrap64 (13 * x16_2)))) + a6)) then (if (wrap64 ((wrap64 ((wrap64 (169 * x15_1)) + (wrap64 (13 * x16_2)))) + a6)) < (l0.length : Int) then (if rdOf false l0 (wrap64 ((wrap64 ((wrap64 (169 * x15_1)) + (wrap64 (13 * x16_2)))) + a6)) = true then (some true) else (bitemporalref02_possible.l1 k2 l0 l1 a2 a3 a4 a5 a6 x15_1 (wrap64 (x16_2 + 1)))) else (none)) else (none)) else (bitemporalref02_possible.l1 k2 l0 l1 a2 a3 a4 a5 a6 x15_1 (wrap64 (x16_2 + 1)))) else (none)) else (none)) = some r := by first | (rw [hji15] at H; exact H) | (simp only [hji15] at H ⊢; exact H)
          have hji15w : (IntKind.i64.wrap ((wrap64 (13 * (wrap64 ((wrap64 (a2 * a5)) + a4)))) + x16_2)) = ji15 := (i64_w _).trans hji15
          by_cases c16 : 0 ≤ (ji15)
          ·rw [if_pos c16] at H
           have c16b0 : decide (0 ≤ (ji15)) = true := decide_eq_true c16
           clear c16
           by_cases c17 : (ji15) < (l1.length : Int)
           ·rw [if_pos c17] at H
            have c17b0 : decide ((ji15) < (l1.length : Int)) = true := decide_eq_true c17
            clear c17
            obtain ⟨bq18, hbq18⟩ : ∃ b_ : Bool, b_ = (rdOf false l1 (ji15)) := ⟨_, rfl⟩
            replace H : (if bq18 = true then (if 0 ≤ (wrap64 ((wrap64 ((wrap64 (169 * x15_1)) + (wrap64 (13 * x16_2)))) + a6)) then (if (wrap64 ((wrap64 ((wrap64 (169 * x15_1)) + (wrap64 (13 * x16_2)))) + a6)) < (l0.length : Int) then (if rdOf false l0 (wrap64 ((wrap64 ((wrap64 (169 * x15_1)) + (wrap64 (13 * x16_2)))) + a6)) = true then (some true) else (bitemporalref02_possible.l1 k2 l0 l1 a2 a3 a4 a5 a6 x15_1 (wrap64 (x16_2 + 1)))) else (none)) else (none)) else (bitemporalref02_possible.l1 k2 l0 l1 a2 a3 a4 a5 a6 x15_1 (wrap64 (x16_2 + 1)))) = some r := by rw [← hbq18] at H; exact H
            have Nbq18 := qq0.mk hbq18
            clear hbq18
            by_cases c19 : bq18 = true
            ·subst c19
             have H1 : (if 0 ≤ (wrap64 ((wrap64 ((wrap64 (169 * x15_1)) + (wrap64 (13 * x16_2)))) + a6)) then (if (wrap64 ((wrap64 ((wrap64 (169 * x15_1)) + (wrap64 (13 * x16_2)))) + a6)) < (l0.length : Int) then (if rdOf false l0 (wrap64 ((wrap64 ((wrap64 (169 * x15_1)) + (wrap64 (13 * x16_2)))) + a6)) = true then (some true) else (bitemporalref02_possible.l1 k2 l0 l1 a2 a3 a4 a5 a6 x15_1 (wrap64 (x16_2 + 1)))) else (none)) else (none)) = some r := by rw [if_pos rfl] at H; exact H
             clear H
             have H := H1
             clear H1
             obtain ⟨ji20, hji20⟩ : ∃ j_ : Int, (wrap64 ((wrap64 ((wrap64 (169 * x15_1)) + (wrap64 (13 * x16_2)))) + a6)) = j_ := ⟨_, rfl⟩
             replace H : (if 0 ≤ (ji20) then (if (ji20) < (l0.length : Int) then (if rdOf false l0 (ji20) = true then (some true) else (bitemporalref02_possible.l1 k2 l0 l1 a2 a3 a4 a5 a6 x15_1 (wrap64 (x16_2 + 1)))) else (none)) else (none)) = some r := by first | (rw [hji20] at H; exact H) | (simp only [hji20] at H ⊢; exact H)
             have hji20w : (IntKind.i64.wrap ((wrap64 ((wrap64 (169 * x15_1)) + (wrap64 (13 * x16_2)))) + a6)) = ji20 := (i64_w _).trans hji20
             by_cases c21 : 0 ≤ (ji20)
             ·rw [if_pos c21] at H
              have c21b0 : decide (0 ≤ (ji20)) = true := decide_eq_true c21
              clear c21
              by_cases c22 : (ji20) < (l0.length : Int)
              ·rw [if_pos c22] at H
               have c22b0 : decide ((ji20) < (l0.length : Int)) = true := decide_eq_true c22
               clear c22
               obtain ⟨bq23, hbq23⟩ : ∃ b_ : Bool, b_ = (rdOf false l0 (ji20)) := ⟨_, rfl⟩
               replace H : (if bq23 = true then (some true) else (bitemporalref02_possible.l1 k2 l0 l1 a2 a3 a4 a5 a6 x15_1 (wrap64 (x16_2 + 1)))) = some r := by rw [← hbq23] at H; exact H
               have Nbq23 := qq0.mk hbq23
               clear hbq23
               by_cases c24 : bq23 = true
               ·subst c24
                have H1 : (some true) = some r := by rw [if_pos rfl] at H; exact H
                clear H
                have H := H1
                clear H1
                obtain rfl := Option.some.inj H
                have p283 : 0 ≤ ((ji15) : Int) := of_decide_eq_true (by first | (with_reducible assumption) | assumption)
                have q283 : (ji15) < (l1.length : Int) := of_decide_eq_true (by first | (with_reducible assumption) | assumption)
                obtain ⟨ad283, e283, hx283_0⟩ := Kd.at_bool HR1.out (ji15) p283 q283
                (try rw [← Nbq12.out] at hx283_0)
                (try rw [← Nbq18.out] at hx283_0)
                (try rw [← Nbq23.out] at hx283_0)
                obtain rfl : ad282 = ad283 := (by injection e283)
                replace p283 := eq_true p283
                replace q283 := eq_true q283
                have p284 : 0 ≤ ((ji20) : Int) := of_decide_eq_true (by first | (with_reducible assumption) | assumption)
                have q284 : (ji20) < (l0.length : Int) := of_decide_eq_true (by first | (with_reducible assumption) | assumption)
                obtain ⟨ad284, e284, hx284_0⟩ := Kd.at_bool HR0.out (ji20) p284 q284
                (try rw [← Nbq12.out] at hx284_0)
                (try rw [← Nbq18.out] at hx284_0)
                (try rw [← Nbq23.out] at hx284_0)
                cases e284
                replace p284 := eq_true p284
                replace q284 := eq_true q284
                go_wp2
                go_ret
                exact ⟨by first | rfl | (simp; done) | (simp only [← hji9, ← hji15, ← hji20] <;> (first | rfl | simp)) | (simp [*]; done), by repeat (first | exact Drawn0.refl _ | apply Drawn0.step)⟩
               ·replace c24 := Bool.eq_false_iff.mpr c24
                subst c24
                have H1 : (bitemporalref02_possible.l1 k2 l0 l1 a2 a3 a4 a5 a6 x15_1 (wrap64 (x16_2 + 1))) = some r := by rw [if_neg (show ¬ (false = true) by decide)] at H; exact H
                clear H
                have H := H1
                clear H1
                have H' := qq0.mk H
                clear H
                have p283 : 0 ≤ ((ji15) : Int) := of_decide_eq_true (by first | (with_reducible assumption) | assumption)
                have q283 : (ji15) < (l1.length : Int) := of_decide_eq_true (by first | (with_reducible assumption) | assumption)
                obtain ⟨ad283, e283, hx283_0⟩ := Kd.at_bool HR1.out (ji15) p283 q283
                (try rw [← Nbq12.out] at hx283_0)
                (try rw [← Nbq18.out] at hx283_0)
                (try rw [← Nbq23.out] at hx283_0)
                obtain rfl : ad282 = ad283 := (by injection e283)
                replace p283 := eq_true p283
                replace q283 := eq_true q283
                have p284 : 0 ≤ ((ji20) : Int) := of_decide_eq_true (by first | (with_reducible assumption) | assumption)
                have q284 : (ji20) < (l0.length : Int) := of_decide_eq_true (by first | (with_reducible assumption) | assumption)
                obtain ⟨ad284, e284, hx284_0⟩ := Kd.at_bool HR0.out (ji20) p284 q284
                (try rw [← Nbq12.out] at hx284_0)
                (try rw [← Nbq18.out] at hx284_0)
                (try rw [← Nbq23.out] at hx284_0)
                cases e284
                replace p284 := eq_true p284
                replace q284 := eq_true q284
                go_wp2
                go_roundg k2
                case measure => have := HK1.out; have := HK2.out; omega
                case rel => exact ⟨(wrap64 (x16_2 + 1)), (by first | rfl | (simp; done) | (simp [*]; done)), H', ⟨by have := HK1.out; have := HK2.out; omega⟩, by repeat (first | exact Drawn0.refl _ | apply Drawn0.step)⟩
              ·rw [if_neg c22] at H
               exact absurd H (by simp)
             ·rw [if_neg c21] at H
              exact absurd H (by simp)
            ·replace c19 := Bool.eq_false_iff.mpr c19
             subst c19
             have H1 : (bitemporalref02_possible.l1 k2 l0 l1 a2 a3 a4 a5 a6 x15_1 (wrap64 (x16_2 + 1))) = some r := by rw [if_neg (show ¬ (false = true) by decide)] at H; exact H
             clear H
             have H := H1
             clear H1
             have H' := qq0.mk H
             clear H
             have p283 : 0 ≤ ((ji15) : Int) := of_decide_eq_true (by first | (with_reducible assumption) | assumption)
             have q283 : (ji15) < (l1.length : Int) := of_decide_eq_true (by first | (with_reducible assumption) | assumption)
             obtain ⟨ad283, e283, hx283_0⟩ := Kd.at_bool HR1.out (ji15) p283 q283
             (try rw [← Nbq12.out] at hx283_0)
             (try rw [← Nbq18.out] at hx283_0)
             obtain rfl : ad282 = ad283 := (by injection e283)
             replace p283 := eq_true p283
             replace q283 := eq_true q283
             go_wp2
             go_roundg k2
             case measure => have := HK1.out; have := HK2.out; omega
             case rel => exact ⟨(wrap64 (x16_2 + 1)), (by first | rfl | (simp; done) | (simp [*]; done)), H', ⟨by have := HK1.out; have := HK2.out; omega⟩, by repeat (first | exact Drawn0.refl _ | apply Drawn0.step)⟩
           ·rw [if_neg c17] at H
            exact absurd H (by simp)
          ·rw [if_neg c16] at H
           exact absurd H (by simp)
         ·rw [if_neg c14] at H
          have c14b0 : decide (x16_2 < 13) = false := decide_eq_false c14
          clear c14
          have H' := qq0.mk H
          clear H
          go_wp2
          go_roundg k2
          case measure => have := HK1.out; have := HK2.out; omega
          case rel => exact ⟨(wrap64 (x15_1 + 1)), (by first | rfl | (simp; done) | (simp [*]; done)), H', ⟨by have := HK1.out; have := HK2.out; omega⟩, by repeat (first | exact Drawn0.refl _ | apply Drawn0.step)⟩
      ·replace c13 := Bool.eq_false_iff.mpr c13
       subst c13
       have H1 : (bitemporalref02_possible.l0 k1 l0 l1 a2 a3 a4 a5 a6 (wrap64 (x15_1 + 1))) = some r := by rw [if_neg (show ¬ (false = true) by decide)] at H; exact H
       clear H
       have H := H1
       clear H1
       have H' := qq0.mk H
       clear H
       have p282 : 0 ≤ ((ji9) : Int) := of_decide_eq_true (by first | (with_reducible assumption) | assumption)
       have q282 : (ji9) < (l1.length : Int) := of_decide_eq_true (by first | (with_reducible assumption) | assumption)
       obtain ⟨ad282, e282, hx282_0⟩ := Kd.at_bool HR1.out (ji9) p282 q282
       (try rw [← Nbq12.out] at hx282_0)
       cases e282
       replace p282 := eq_true p282
       replace q282 := eq_true q282
       go_wp2
       go_roundg k1
       case measure => have := HK1.out; omega
       case rel => exact ⟨(wrap64 (x15_1 + 1)), (by first | rfl | (simp; done) | (simp [*]; done)), H', ⟨by have := HK1.out; omega⟩, by repeat (first | exact Drawn0.refl _ | apply Drawn0.step)⟩
     ·rw [if_neg c11] at H
      exact absurd H (by simp)
    ·rw [if_neg c10] at H
     exact absurd H (by simp)
   ·rw [if_neg c8] at H
    have c8b0 : decide (x15_1 < 13) = false := decide_eq_false c8
    clear c8
    obtain rfl := Option.some.inj H
    go_wp2
    go_ret
    exact ⟨by first | rfl | (simp; done) | (simp [*]; done), by repeat (first | exact Drawn0.refl _ | apply Drawn0.step)⟩
mutual
def bitemporalref02_once.l0 : Nat → List Bool → List Bool → Int → Int → Int → Option (Int × List Bool)
 | 0, _, _, _, _, _ => none
 | k + 1, x0, x1, x2, x7, x8 => if x8 < x2 then (bitemporalref02_once.l1 k x0 x1 x2 x7 x8 0) else (some (x7, x1))
def bitemporalref02_once.l1 : Nat → List Bool → List Bool → Int → Int → Int → Int → Option (Int × List Bool)
 | 0, _, _, _, _, _, _ => none
 | k + 1, x0, x1, x2, x7, x8, x9 => if x9 < x2 then (bitemporalref02_once.l2 k x0 x1 x2 x7 x8 x9 0) else (bitemporalref02_once.l0 k x0 x1 x2 x7 (wrap64 (x8 + 1)))
def bitemporalref02_once.l2 : Nat → List Bool → List Bool → Int → Int → Int → Int → Int → Option (Int × List Bool)
 | 0, _, _, _, _, _, _, _ => none
 | k + 1, x0, x1, x2, x7, x8, x9, x10 => if x10 < 13 then (bitemporalref02_once.l3 k x0 x1 x2 x7 x8 x9 x10 0) else (bitemporalref02_once.l1 k x0 x1 x2 x7 x8 (wrap64 (x9 + 1)))
def bitemporalref02_once.l3 : Nat → List Bool → List Bool → Int → Int → Int → Int → Int → Int → Option (Int × List Bool)
 | 0, _, _, _, _, _, _, _, _ => none
 | k + 1, x0, x1, x2, x7, x8, x9, x10, x11 => if x11 < x2 then (if 0 ≤ (wrap64 ((wrap64 (13 * (wrap64 ((wrap64 (x2 * x8)) + x9)))) + x10)) then (if (wrap64 ((wrap64 (13 * (wrap64 ((wrap64 (x2 * x8)) + x9)))) + x10)) < (x1.length : Int) then (if rdOf false x1 (wrap64 ((wrap64 (13 * (wrap64 ((wrap64 (x2 * x8)) + x9)))) + x10)) = true then ((bitemporalref02_possible.f k x0 x1 x2 x8 x9 x11 x10).bind fun t286 => (if t286 = true then (bitemporalref02_once.l3 k x0 x1 x2 x7 x8 x9 x10 (wrap64 (x11 + 1))) else ((bitemporalref02_Inverse.f x10).bind fun t288 => (if 0 ≤ (wrap64 ((wrap64 (13 * (wrap64 ((wrap64 (x2 * x9)) + x8)))) + t288)) then (if (wrap64 ((wrap64 (13 * (wrap64 ((wrap64 (x2 * x9)) + x8)))) + t288)) < (x1.length : Int) then (bitemporalref02_once.l3 k x0 ((x1.set ((wrap64 ((wrap64 (13 * (wrap64 ((wrap64 (x2 * x8)) + x9)))) + x10)) : Int).toNat false).set ((wrap64 ((wrap64 (13 * (wrap64 ((wrap64 (x2 * x9)) + x8)))) + t288)) : Int).toNat false) x2 (wrap64 (x7 + 1)) x8 x9 x10 (wrap64 (x11 + 1))) else (none)) else (none))))) else (bitemporalref02_once.l3 k x0 x1 x2 x7 x8 x9 x10 (wrap64 (x11 + 1)))) else (none)) else (none)) else (bitemporalref02_once.l2 k x0 x1 x2 x7 x8 x9 (wrap64 (x10 + 1)))
end
def bitemporalref02_once.f (k : Nat) (l0 : List Bool) (l1 : List Bool) (a2 : Int) : Option (Int × List Bool) := bitemporalref02_once.l0 k l0 l1 a2 0 0
set_option maxHeartbeats 8000000 in
set_option maxRecDepth 100000 in
theorem bitemporalref02_once.calls (k : Nat) (A0 : Option Addr) (c0 : Nat) (l0 : List Bool) (P1_ : Nat → Prop) (u9000_ : Value) (l1 : List Bool) (a2 : Int) (r1 : Int) (r2 : List Bool) (w0 w : World) (hB : Below w0.heap.size w0 w) (hr0 : ∀ W_, Kept w W_ (fun k_ => P1_ k_) → Kd.C Kd.bool W_ A0 l0.length l0) (hc0 : l0.length ≤ c0) (ho1 : Kd.R Kd.bool 4 w w0.heap.size P1_ u9000_ l1) (h : bitemporalref02_once.f k l0 l1 a2 = some (r1, r2)) :
  Calls Try.prog 41 #[.slice A0 l0.length c0, u9000_, .int .i64 a2] w fun e w' => e = .returned (.int .i64 r1) ∧ Kd.R Kd.bool 4 w' w0.heap.size (fun k_ => (P1_ k_ ∨ w.heap.size ≤ k_)) u9000_ r2 ∧ Below w0.heap.size w0 w' ∧ Kept w w' (fun k_ => P1_ k_) := by
 have HR0 := qq0.mk hr0
 have HC0 := qq0.mk hc0
 clear hr0 hc0
 have HO1 := qq0.mk (show Kd.R Kd.bool 4 w w0.heap.size (fun k_ => (P1_ k_ ∨ w.heap.size ≤ k_)) u9000_ l1 from Kd.R_mono ho1 (fun k_ hk => (.inl hk)))
 have HK := qq0.mk (Kept.refl w (fun k_ => P1_ k_))
 have HW0 := qq0.mk hB.size
 have HB := qq0.mk hB
 clear hB
 have H : (bitemporalref02_once.l0 k l0 l1 a2 0 0) = some (r1, r2) := h
 clear h
 have H' := qq0.mk H
 clear H
 go_enter Try.func41, Try.ntmps41
 go_wp2
 go_loopg [7, 8] k (fun kq v7 v8 w' => ∃ (x1_1 : List Bool) (x7_1 : Int) (x8_1 : Int), v7 = .int .i64 x7_1 ∧ v8 = .int .i64 x8_1 ∧ qq0 (bitemporalref02_once.l0 kq l0 x1_1 a2 x7_1 x8_1 = some (r1, r2)) ∧ qq0 (kq ≤ k) ∧ qq0 (Kd.R Kd.bool 4 w' w0.heap.size (fun k_ => (P1_ k_ ∨ w.heap.size ≤ k_)) u9000_ x1_1) ∧ qq0 (Kept w w' (fun k_ => P1_ k_)) ∧ qq0 (Below w0.heap.size w0 w'))
 case atStart => exact ⟨(l1), (0), (0), (by first | rfl | (simp; done) | (simp [*]; done)), (by first | rfl | (simp; done) | (simp [*]; done)), H', ⟨Nat.le_refl _⟩, ⟨by (with_reducible repeat (first | apply Kd.R_alloc | apply Kd.R_drewN | apply Kd.R_drew)); exact HO1.out⟩, ⟨by repeat (first | (with_reducible first | exact HK.out | apply Kept.alloc | apply Kept.drewN | apply Kept.drew) | exact HK.out)⟩, ⟨by repeat (first | (with_reducible first | exact HB.out | apply qq3 | apply qq1 | apply qq2) | exact HB.out)⟩⟩
 case round =>
  clear H'
  try clear p2
  obtain ⟨x1_1, x7_1, x8_1, rfl, rfl, HA, HK1, HO_1, HK, HB⟩ := hrel
  cases gk with
  | zero => exact absurd HA.out (by simp [bitemporalref02_once.l0])
  | succ k1 =>
   have H := HA.out
   clear HA
   simp only [bitemporalref02_once.l0] at H
   by_cases c4 : x8_1 < a2
   ·rw [if_pos c4] at H
    have c4b0 : decide (x8_1 < a2) = true := decide_eq_true c4
    clear c4
    have H' := qq0.mk H
    clear H
    go_wp2
    go_loopg [7, 9] k1 (fun kq v7 v9 w' => ∃ (x1_2 : List Bool) (x7_2 : Int) (x9_2 : Int), v7 = .int .i64 x7_2 ∧ v9 = .int .i64 x9_2 ∧ qq0 (bitemporalref02_once.l1 kq l0 x1_2 a2 x7_2 x8_1 x9_2 = some (r1, r2)) ∧ qq0 (kq ≤ k1) ∧ qq0 (Kd.R Kd.bool 4 w' w0.heap.size (fun k_ => (P1_ k_ ∨ w.heap.size ≤ k_)) u9000_ x1_2) ∧ qq0 (Kept w w' (fun k_ => P1_ k_)) ∧ qq0 (Below w0.heap.size w0 w'))
    case atStart => exact ⟨(x1_1), (x7_1), (0), (by first | rfl | (simp; done) | (simp [*]; done)), (by first | rfl | (simp; done) | (simp [*]; done)), H', ⟨Nat.le_refl _⟩, ⟨by (with_reducible repeat (first | apply Kd.R_alloc | apply Kd.R_drewN | apply Kd.R_drew)); exact HO_1.out⟩, ⟨by repeat (first | (with_reducible first | exact HK.out | apply Kept.alloc | apply Kept.drewN | apply Kept.drew) | exact HK.out)⟩, ⟨by repeat (first | (with_reducible first | exact HB.out | apply qq3 | apply qq1 | apply qq2) | exact HB.out)⟩⟩
    case round =>
     clear H'
     try clear p2
     try clear c4
     try clear c4b0
     try clear p2
     obtain ⟨x1_2, x7_2, x9_2, rfl, rfl, HA, HK2, HO_1, HK, HB⟩ := hrel
     cases gk with
     | zero => exact absurd HA.out (by simp [bitemporalref02_once.l1])
     | succ k2 =>
      have H := HA.out
      clear HA
      simp only [bitemporalref02_once.l1] at H
      by_cases c5 : x9_2 < a2
      ·rw [if_pos c5] at H
       have c5b0 : decide (x9_2 < a2) = true := decide_eq_true c5
       clear c5
       have H' := qq0.mk H
       clear H
       go_wp2
       go_loopg [7, 10] k2 (fun kq v7 v10 w' => ∃ (x1_3 : List Bool) (x7_3 : Int) (x10_3 : Int), v7 = .int .i64 x7_3 ∧ v10 = .int .i64 x10_3 ∧ qq0 (bitemporalref02_once.l2 kq l0 x1_3 a2 x7_3 x8_1 x9_2 x10_3 = some (r1, r2)) ∧ qq0 (kq ≤ k2) ∧ qq0 (Kd.R Kd.bool 4 w' w0.heap.size (fun k_ => (P1_ k_ ∨ w.heap.size ≤ k_)) u9000_ x1_3) ∧ qq0 (Kept w w' (fun k_ => P1_ k_)) ∧ qq0 (Below w0.heap.size w0 w'))
       case atStart => exact ⟨(x1_2), (x7_2), (0), (by first | rfl | (simp; done) | (simp [*]; done)), (by first | rfl | (simp; done) | (simp [*]; done)), H', ⟨Nat.le_refl _⟩, ⟨by (with_reducible repeat (first | apply Kd.R_alloc | apply Kd.R_drewN | apply Kd.R_drew)); exact HO_1.out⟩, ⟨by repeat (first | (with_reducible first | exact HK.out | apply Kept.alloc | apply Kept.drewN | apply Kept.drew) | exact HK.out)⟩, ⟨by repeat (first | (with_reducible first | exact HB.out | apply qq3 | apply qq1 | apply qq2) | exact HB.out)⟩⟩
       case round =>
        clear H'
        try clear p2
        try clear c4
        try clear c4b0
        try clear c5
        try clear c5b0
        try clear p2
        obtain ⟨x1_3, x7_3, x10_3, rfl, rfl, HA, HK3, HO_1, HK, HB⟩ := hrel
        cases gk with
        | zero => exact absurd HA.out (by simp [bitemporalref02_once.l2])
        | succ k3 =>
         have H := HA.out
         clear HA
         simp only [bitemporalref02_once.l2] at H
         by_cases c6 : x10_3 < 13
         ·rw [if_pos c6] at H
          have c6b0 : decide (x10_3 < 13) = true := decide_eq_true c6
          clear c6
          have H' := qq0.mk H
          clear H
          go_wp2
          go_loopg [7, 11] k3 (fun kq v7 v11 w' => ∃ (x1_4 : List Bool) (x7_4 : Int) (x11_4 : Int), v7 = .int .i64 x7_4 ∧ v11 = .int .i64 x11_4 ∧ qq0 (bitemporalref02_once.l3 kq l0 x1_4 a2 x7_4 x8_1 x9_2 x10_3 x11_4 = some (r1, r2)) ∧ qq0 (kq ≤ k3) ∧ qq0 (Kd.R Kd.bool 4 w' w0.heap.size (fun k_ => (P1_ k_ ∨ w.heap.size ≤ k_)) u9000_ x1_4) ∧ qq0 (Kept w w' (fun k_ => P1_ k_)) ∧ qq0 (Below w0.heap.size w0 w'))
          case atStart => exact ⟨(x1_3), (x7_3), (0), (by first | rfl | (simp; done) | (simp [*]; done)), (by first | rfl | (simp; done) | (simp [*]; done)), H', ⟨Nat.le_refl _⟩, ⟨by (with_reducible repeat (first | apply Kd.R_alloc | apply Kd.R_drewN | apply Kd.R_drew)); exact HO_1.out⟩, ⟨by repeat (first | (with_reducible first | exact HK.out | apply Kept.alloc | apply Kept.drewN | apply Kept.drew) | exact HK.out)⟩, ⟨by repeat (first | (with_reducible first | exact HB.out | apply qq3 | apply qq1 | apply qq2) | exact HB.out)⟩⟩
          case round =>
           clear H'
           try clear p2
           try clear c4
           try clear c4b0
           try clear c5
           try clear c5b0
           try clear c6
           try clear c6b0
           try clear p2
           obtain ⟨x1_4, x7_4, x11_4, rfl, rfl, HA, HK4, HO_1, HK, HB⟩ := hrel
           cases gk with
           | zero => exact absurd HA.out (by simp [bitemporalref02_once.l3])
           | succ k4 =>
            have H := HA.out
            clear HA
            simp only [bitemporalref02_once.l3] at H
            by_cases c7 : x11_4 < a2
            ·rw [if_pos c7] at H
             have c7b0 : decide (x11_4 < a2) = true := decide_eq_true c7
             clear c7
             obtain ⟨ji8, hji8⟩ : ∃ j_ : Int, (wrap64 ((wrap64 (13 * (wrap64 ((wrap64 (a2 * x8_1)) + x9_2)))) + x10_3)) = j_ := ⟨_, rfl⟩
             replace H : (if 0 ≤ (ji8) then (if (ji8) < (x1_4.length : Int) then (if rdOf false x1_4 (ji8) = true then ((bitemporalref02_possible.f k4 l0 x1_4 a2 x8_1 x9_2 x11_4 x10_3).bind fun t286 => (if t286 = true then (bitemporalref02_once.l3 k4 l0 x1_4 a2 x7_4 x8_1 x9_2 x10_3 (wrap64 (x11_4 + 1))) else ((bitemporalref02_Inverse.f x10_3).bind fun t288 => (if 0 ≤ (wrap64 ((wrap64 (13 * (wrap64 ((wrap64 (a2 * x9_2)) + x8_1)))) + t288)) then (if (wrap64 ((wrap64 (13 * (wrap64 ((wrap64 (a2 * x9_2)) + x8_1)))) + t288)) < (x1_4.length : Int) then (bitemporalref02_once.l3 k4 l0 ((x1_4.set ((ji8) : Int).toNat false).set ((wrap64 ((wrap64 (13 * (wrap64 ((wrap64 (a2 * x9_2)) + x8_1)))) + t288)) : Int).toNat false) a2 (wrap64 (x7_4 + 1)) x8_1 x9_2 x10_3 (wrap64 (x11_4 + 1))) else (none)) else (none))))) else (bitemporalref02_once.l3 k4 l0 x1_4 a2 x7_4 x8_1 x9_2 x10_3 (wrap64 (x11_4 + 1)))) else (none)) else (none)) = some (r1, r2) := by first | (rw [hji8] at H; exact H) | (simp only [hji8] at H ⊢; exact H)
             have hji8w : (IntKind.i64.wrap ((wrap64 (13 * (wrap64 ((wrap64 (a2 * x8_1)) + x9_2)))) + x10_3)) = ji8 := (i64_w _).trans hji8
             by_cases c9 : 0 ≤ (ji8)
             ·rw [if_pos c9] at H
              have c9b0 : decide (0 ≤ (ji8)) = true := decide_eq_true c9
              clear c9
              by_cases c10 : (ji8) < (x1_4.length : Int)
              ·rw [if_pos c10] at H
               have c10b0 : decide ((ji8) < (x1_4.length : Int)) = true := decide_eq_true c10
               clear c10
               obtain ⟨bq11, hbq11⟩ : ∃ b_ : Bool, b_ = (rdOf false x1_4 (ji8)) := ⟨_, rfl⟩
               replace H : (if bq11 = true then ((bitemporalref02_possible.f k4 l0 x1_4 a2 x8_1 x9_2 x11_4 x10_3).bind fun t286 => (if t286 = true then (bitemporalref02_once.l3 k4 l0 x1_4 a2 x7_4 x8_1 x9_2 x10_3 (wrap64 (x11_4 + 1))) else ((bitemporalref02_Inverse.f x10_3).bind fun t288 => (if 0 ≤ (wrap64 ((wrap64 (13 * (wrap64 ((wrap64 (a2 * x9_2)) + x8_1)))) + t288)) then (if (wrap64 ((wrap64 (13 * (wrap64 ((wrap64 (a2 * x9_2)) + x8_1)))) + t288)) < (x1_4.length : Int) then (bitemporalref02_once.l3 k4 l0 ((x1_4.set ((ji8) : Int).toNat false).set ((wrap64 ((wrap64 (13 * (wrap64 ((wrap64 (a2 * x9_2)) + x8_1)))) + t288)) : Int).toNat false) a2 (wrap64 (x7_4 + 1)) x8_1 x9_2 x10_3 (wrap64 (x11_4 + 1))) else (none)) else (none))))) else (bitemporalref02_once.l3 k4 l0 x1_4 a2 x7_4 x8_1 x9_2 x10_3 (wrap64 (x11_4 + 1)))) = some (r1, r2) := by rw [← hbq11] at H; exact H
               have Nbq11 := qq0.mk hbq11
               clear hbq11
               by_cases c12 : bq11 = true
               ·subst c12
                have H1 : ((bitemporalref02_possible.f k4 l0 x1_4 a2 x8_1 x9_2 x11_4 x10_3).bind fun t286 => (if t286 = true then (bitemporalref02_once.l3 k4 l0 x1_4 a2 x7_4 x8_1 x9_2 x10_3 (wrap64 (x11_4 + 1))) else ((bitemporalref02_Inverse.f x10_3).bind fun t288 => (if 0 ≤ (wrap64 ((wrap64 (13 * (wrap64 ((wrap64 (a2 * x9_2)) + x8_1)))) + t288)) then (if (wrap64 ((wrap64 (13 * (wrap64 ((wrap64 (a2 * x9_2)) + x8_1)))) + t288)) < (x1_4.length : Int) then (bitemporalref02_once.l3 k4 l0 ((x1_4.set ((ji8) : Int).toNat false).set ((wrap64 ((wrap64 (13 * (wrap64 ((wrap64 (a2 * x9_2)) + x8_1)))) + t288)) : Int).toNat false) a2 (wrap64 (x7_4 + 1)) x8_1 x9_2 x10_3 (wrap64 (x11_4 + 1))) else (none)) else (none))))) = some (r1, r2) := by rw [if_pos rfl] at H; exact H
                clear H
                have H := H1
                clear H1
                replace H := Option.bind_eq_some_iff.mp H
                obtain ⟨t286, A130, H⟩ := H
                replace H : (if t286 = true then (bitemporalref02_once.l3 k4 l0 x1_4 a2 x7_4 x8_1 x9_2 x10_3 (wrap64 (x11_4 + 1))) else ((bitemporalref02_Inverse.f x10_3).bind fun t288 => (if 0 ≤ (wrap64 ((wrap64 (13 * (wrap64 ((wrap64 (a2 * x9_2)) + x8_1)))) + t288)) then (if (wrap64 ((wrap64 (13 * (wrap64 ((wrap64 (a2 * x9_2)) + x8_1)))) + t288)) < (x1_4.length : Int) then (bitemporalref02_once.l3 k4 l0 ((x1_4.set ((ji8) : Int).toNat false).set ((wrap64 ((wrap64 (13 * (wrap64 ((wrap64 (a2 * x9_2)) + x8_1)))) + t288)) : Int).toNat false) a2 (wrap64 (x7_4 + 1)) x8_1 x9_2 x10_3 (wrap64 (x11_4 + 1))) else (none)) else (none)))) = some (r1, r2) := H
                have A13 := qq0.mk A130
                clear A130
                by_cases c14 : t286 = true
                ·subst c14
                 have H1 : (bitemporalref02_once.l3 k4 l0 x1_4 a2 x7_4 x8_1 x9_2 x10_3 (wrap64 (x11_4 + 1))) = some (r1, r2) := by rw [if_pos rfl] at H; exact H
                 clear H
                 have H := H1
                 clear H1
                 have H' := qq0.mk H
                 clear H
                 obtain ⟨Ao15, co15, eo15⟩ := Kd.R_slice HO_1.out
                 subst eo15
                 have p285 : 0 ≤ ((ji8) : Int) := of_decide_eq_true (by first | (with_reducible assumption) | assumption)
                 have q285 : (ji8) < (x1_4.length : Int) := of_decide_eq_true (by first | (with_reducible assumption) | assumption)
                 obtain ⟨ad285, e285, hx285_0⟩ := Kd.at_bool (Kd.R_reads' HO_1.out).2.2 (ji8) p285 q285
                 (try rw [← Nbq11.out] at hx285_0)
                 cases e285
                 replace p285 := eq_true p285
                 replace q285 := eq_true q285
                 go_wp2_with (first | (go_at_call 53; (with_reducible refine (bitemporalref02_possible.calls k4 _ _ l0 _ _ x1_4 a2 x8_1 x9_2 x11_4 x10_3 true _ ?side1 ?side2 ?side3 ?side4 A13.out).mono ?_); (case side1 => exact Kd.C_kept_now HR0.out (by repeat (first | (with_reducible first | exact HK.out | apply Kept.alloc | apply Kept.drewN | apply Kept.drew) | exact HK.out))); (case side2 => exact HC0.out); (case side3 => repeat (first | exact (Kd.R_reads' HO_1.out).2.2 | (with_reducible refine Kd.C_alloc ?_ _) | (with_reducible refine Kd.C_drewN ?_ _) | (with_reducible refine Kd.C_drew ?_))); (case side4 => exact (Kd.R_reads' HO_1.out).2.1); rintro e w' ⟨rfl, ⟨nd, rfl⟩⟩))
                 go_roundg k4
                 case measure => have := HK1.out; have := HK2.out; have := HK3.out; have := HK4.out; omega
                 case rel => exact ⟨(x1_4), (x7_4), (wrap64 (x11_4 + 1)), (by first | rfl | (simp; done) | (simp [*]; done)), (by first | rfl | (simp; done) | (simp [*]; done)), H', ⟨by have := HK1.out; have := HK2.out; have := HK3.out; have := HK4.out; omega⟩, ⟨by (with_reducible repeat (first | apply Kd.R_alloc | apply Kd.R_drewN | apply Kd.R_drew)); exact HO_1.out⟩, ⟨by repeat (first | (with_reducible first | exact HK.out | apply Kept.alloc | apply Kept.drewN | apply Kept.drew) | exact HK.out)⟩, ⟨by repeat (first | (with_reducible first | exact HB.out | apply qq3 | apply qq1 | apply qq2) | exact HB.out)⟩⟩
                ·replace c14 := Bool.eq_false_iff.mpr c14
                 subst c14
                 have H1 : ((bitemporalref02_Inverse.f x10_3).bind fun t288 => (if 0 ≤ (wrap64 ((wrap64 (13 * (wrap64 ((wrap64 (a2 * x9_2)) + x8_1)))) + t288)) then (if (wrap64 ((wrap64 (13 * (wrap64 ((wrap64 (a2 * x9_2)) + x8_1)))) + t288)) < (x1_4.length : Int) then (bitemporalref02_once.l3 k4 l0 ((x1_4.set ((ji8) : Int).toNat false).set ((wrap64 ((wrap64 (13 * (wrap64 ((wrap64 (a2 * x9_2)) + x8_1)))) + t288)) : Int).toNat false) a2 (wrap64 (x7_4 + 1)) x8_1 x9_2 x10_3 (wrap64 (x11_4 + 1))) else (none)) else (none))) = some (r1, r2) := by rw [if_neg (show ¬ (false = true) by decide)] at H; exact H
                 clear H
                 have H := H1
                 clear H1
                 obtain ⟨y287, hy287⟩ : ∃ y_ : List Bool, y_ = (x1_4.set ((ji8) : Int).toNat false) := ⟨_, rfl⟩
                 replace H : ((bitemporalref02_Inverse.f x10_3).bind fun t288 => (if 0 ≤ (wrap64 ((wrap64 (13 * (wrap64 ((wrap64 (a2 * x9_2)) + x8_1)))) + t288)) then (if (wrap64 ((wrap64 (13 * (wrap64 ((wrap64 (a2 * x9_2)) + x8_1)))) + t288)) < (x1_4.length : Int) then (bitemporalref02_once.l3 k4 l0 (y287.set ((wrap64 ((wrap64 (13 * (wrap64 ((wrap64 (a2 * x9_2)) + x8_1)))) + t288)) : Int).toNat false) a2 (wrap64 (x7_4 + 1)) x8_1 x9_2 x10_3 (wrap64 (x11_4 + 1))) else (none)) else (none))) = some (r1, r2) := by first | (rw [hy287]; with_reducible exact H) | (have H2_ := (Option.bind_some _ _).symm.trans H; rw [hy287]; with_reducible exact H2_) | (have H2_ := (Option.bind_some _ _).symm.trans H; with_reducible exact H2_) | with_reducible exact H | (rw [hy287]; exact H) | exact H
                 have Ny287 := qq0.mk hy287
                 clear hy287
                 replace H := Option.bind_eq_some_iff.mp H
                 obtain ⟨t288, A170, H⟩ := H
                 replace H : (if 0 ≤ (wrap64 ((wrap64 (13 * (wrap64 ((wrap64 (a2 * x9_2)) + x8_1)))) + t288)) then (if (wrap64 ((wrap64 (13 * (wrap64 ((wrap64 (a2 * x9_2)) + x8_1)))) + t288)) < (x1_4.length : Int) then (bitemporalref02_once.l3 k4 l0 (y287.set ((wrap64 ((wrap64 (13 * (wrap64 ((wrap64 (a2 * x9_2)) + x8_1)))) + t288)) : Int).toNat false) a2 (wrap64 (x7_4 + 1)) x8_1 x9_2 x10_3 (wrap64 (x11_4 + 1))) else (none)) else (none)) = some (r1, r2) := H
                 have A17 := qq0.mk A170
                 clear A170
                 obtain ⟨ji18, hji18⟩ : ∃ j_ : Int, (wrap64 ((wrap64 (13 * (wrap64 ((wrap64 (a2 * x9_2)) + x8_1)))) + t288)) = j_ := ⟨_, rfl⟩
                 replace H : (if 0 ≤ (ji18) then (if (ji18) < (x1_4.length : Int) then (bitemporalref02_once.l3 k4 l0 (y287.set ((ji18) : Int).toNat false) a2 (wrap64 (x7_4 + 1)) x8_1 x9_2 x10_3 (wrap64 (x11_4 + 1))) else (none)) else (none)) = some (r1, r2) := by first | (rw [hji18] at H; exact H) | (simp only [hji18] at H ⊢; exact H)
                 (try rw [hji18] at A13)
                 (try rw [hji18] at A17)
                 have hji18w : (IntKind.i64.wrap ((wrap64 (13 * (wrap64 ((wrap64 (a2 * x9_2)) + x8_1)))) + t288)) = ji18 := (i64_w _).trans hji18
                 by_cases c19 : 0 ≤ (ji18)
                 ·rw [if_pos c19] at H
                  have c19b0 : decide (0 ≤ (ji18)) = true := decide_eq_true c19
                  clear c19
                  by_cases c20 : (ji18) < (x1_4.length : Int)
                  ·rw [if_pos c20] at H
                   have c20b0 : decide ((ji18) < (x1_4.length : Int)) = true := decide_eq_true c20
                   clear c20
                   obtain ⟨y289, hy289⟩ : ∃ y_ : List Bool, y_ = (y287.set ((ji18) : Int).toNat false) := ⟨_, rfl⟩
                   replace H : (bitemporalref02_once.l3 k4 l0 y289 a2 (wrap64 (x7_4 + 1)) x8_1 x9_2 x10_3 (wrap64 (x11_4 + 1))) = some (r1, r2) := by first | (rw [hy289]; with_reducible exact H) | (have H2_ := (Option.bind_some _ _).symm.trans H; rw [hy289]; with_reducible exact H2_) | (have H2_ := (Option.bind_some _ _).symm.trans H; with_reducible exact H2_) | with_reducible exact H | (rw [hy289]; exact H) | exact H
                   have Ny289 := qq0.mk hy289
                   clear hy289
                   have H' := qq0.mk H
                   clear H
                   obtain ⟨Ao22, co22, eo22⟩ := Kd.R_slice HO_1.out
                   subst eo22
                   have p285 : 0 ≤ ((ji8) : Int) := of_decide_eq_true (by first | (with_reducible assumption) | assumption)
                   have q285 : (ji8) < (x1_4.length : Int) := of_decide_eq_true (by first | (with_reducible assumption) | assumption)
                   obtain ⟨ad285, e285, hx285_0⟩ := Kd.at_bool (Kd.R_reads' HO_1.out).2.2 (ji8) p285 q285
                   (try rw [← Nbq11.out] at hx285_0)
                   cases e285
                   replace p285 := eq_true p285
                   replace q285 := eq_true q285
                   go_wp2_with (first | (go_at_call 53; (with_reducible refine (bitemporalref02_possible.calls k4 _ _ l0 _ _ x1_4 a2 x8_1 x9_2 x11_4 x10_3 false _ ?side1 ?side2 ?side3 ?side4 A13.out).mono ?_); (case side1 => exact Kd.C_kept_now HR0.out (by repeat (first | (with_reducible first | exact HK.out | apply Kept.alloc | apply Kept.drewN | apply Kept.drew) | exact HK.out))); (case side2 => exact HC0.out); (case side3 => repeat (first | exact (Kd.R_reads' HO_1.out).2.2 | (with_reducible refine Kd.C_alloc ?_ _) | (with_reducible refine Kd.C_drewN ?_ _) | (with_reducible refine Kd.C_drew ?_))); (case side4 => exact (Kd.R_reads' HO_1.out).2.1); rintro e w' ⟨rfl, ⟨nd, rfl⟩⟩; (try (rw [drewN_self wr]; generalize hq_ : World.drewN wr _ = wr; have n0_ : qq0 (Kd.R Kd.bool 4 wr w0.heap.size (fun k_ => (P1_ k_ ∨ w.heap.size ≤ k_)) (.slice (some ad285) x1_4.length co22) x1_4) := ⟨by rw [← hq_]; exact (by (with_reducible repeat (first | apply Kd.R_alloc | apply Kd.R_drewN | apply Kd.R_drew)); exact HO_1.out)⟩; have n1_ : qq0 (Kept w wr (fun k_ => P1_ k_)) := ⟨by rw [← hq_]; exact (by repeat (first | (with_reducible first | exact HK.out | apply Kept.alloc | apply Kept.drewN | apply Kept.drew) | exact HK.out))⟩; have n2_ : qq0 (Below w0.heap.size w0 wr) := ⟨by rw [← hq_]; exact (by repeat (first | (with_reducible first | exact HB.out | apply qq3 | apply qq1 | apply qq2) | exact HB.out))⟩; clear HO_1 HK HB hq_; have HO_1 := n0_; have HK := n1_; have HB := n2_; clear n0_ n1_ n2_)); have p16 : 0 ≤ ((ji8) : Int) := of_decide_eq_true (by first | (with_reducible assumption) | assumption); have q16 : ((ji8) : Int) < ((x1_4.length : Int) : Int) := of_decide_eq_true (by first | (with_reducible assumption) | assumption); obtain ⟨go16, co16, eo16, gb16, gl16, cl16, HG16⟩ := Kd.R_form HO_1.out (by omega); (first | cases eo16 | (injection eo16 with ea_ en_ ec_; (first | subst ea_ | (injection ea_ with ea_; subst ea_)); subst ec_; clear en_)); have GB16 := qq0.mk gb16; have GG16 := qq0.mk HG16; clear gb16 gl16 HG16; have HMgo16 := qq0.mk (show (P1_ go16 ∨ w.heap.size ≤ go16) from (HO_1.out.1 _ rfl)); (first | simp only [add_plain] at hx285_0 | skip); obtain ⟨hx16_0, hf16_0⟩ := Kd.R_celln false HO_1.out ((ji8) : Int) p16 q16; replace p16 := eq_true p16; replace q16 := eq_true q16; obtain ⟨hy23_, hz23_⟩ := Kd.R_celln false HO_1.out ((ji8) : Int) (of_decide_eq_true (by first | (with_reducible assumption) | assumption)) (of_decide_eq_true (by first | (with_reducible assumption) | assumption)); have HP23 := Kd.R_putg HO_1.out ((ji8) : Int) false) | ((with_reducible refine gate_store (t := 4) (p := 57) rfl ?_); refine store_event (t := 4) (p := 57) (v := ?vo_w24) (w1 := (wr.setCell ⟨go16, ((ji8) : Int).toNat, none⟩ (.bool false))) ?hg ?ho ?hn ?hr ?_; (case ho => rfl); (case hg => rfl); (case hn => rfl); (case hr => first | (go_simp; done) | (go_simp; rfl)); intro w24 hw; have hg : wr.grownBy w24 (some go16) := (by rw [hw]; exact HP23.2); have hp_ : Kd.R Kd.bool 4 w24 w0.heap.size (fun k_ => (P1_ k_ ∨ w.heap.size ≤ k_)) (.slice (some ⟨go16, 0, none⟩) x1_4.length co22) y287 := (by rw [hw, Ny287.out]; exact HP23.1); clear HP23; have n0_ := qq0.mk (hp_); have n1_ := qq0.mk ((by rw [hw]; exact qq4 (HB.out) GB16.out : Below w0.heap.size w0 w24)); have n2_ := qq0.mk (Kept.of_grown (S := (fun k_ => P1_ k_)) hg (by repeat (first | (with_reducible first | exact HK.out | apply Kept.alloc | apply Kept.drewN | apply Kept.drew) | exact HK.out)) (fun k_ e_ => (HO_1.out.1 k_ e_))); clear HO_1; clear HB; clear HK; have HO_1 := n0_; have HB := n1_; have HK := n2_; clear n0_ n1_ n2_; clear hg hw hp_) | ((with_reducible refine gate_callee (f := 20) rfl ?_); refine goesL_ (some 66) rfl rfl Try.func20 (by kernel_rfl) rfl #[.int .i64 x10_3] rfl (by (try simp only [List.map_toArray, List.map_cons, List.map_nil]); first | done | rfl | (simp only [List.length_drop, List.length_take]; rfl)) ?_; (with_reducible refine (bitemporalref02_Inverse.calls x10_3 t288 _ A17.out).mono ?_); rintro e w' ⟨rfl, ⟨nd, rfl⟩⟩; refine ⟨_, rfl, ?_⟩; (try (rw [drewN_self w24]; generalize hq_ : World.drewN w24 _ = w24; have n0_ : qq0 (Kd.R Kd.bool 4 w24 w0.heap.size (fun k_ => (P1_ k_ ∨ w.heap.size ≤ k_)) (.slice (some ⟨go16, 0, none⟩) x1_4.length co22) y287) := ⟨by rw [← hq_]; exact (by (with_reducible repeat (first | apply Kd.R_alloc | apply Kd.R_drewN | apply Kd.R_drew)); exact HO_1.out)⟩; have n1_ : qq0 (Kept w w24 (fun k_ => P1_ k_)) := ⟨by rw [← hq_]; exact (by repeat (first | (with_reducible first | exact HK.out | apply Kept.alloc | apply Kept.drewN | apply Kept.drew) | exact HK.out))⟩; have n2_ : qq0 (Below w0.heap.size w0 w24) := ⟨by rw [← hq_]; exact (by repeat (first | (with_reducible first | exact HB.out | apply qq3 | apply qq1 | apply qq2) | exact HB.out))⟩; clear HO_1 HK HB hq_; have HO_1 := n0_; have HK := n1_; have HB := n2_; clear n0_ n1_ n2_)); have p21 : 0 ≤ ((ji18) : Int) := of_decide_eq_true (by first | (with_reducible assumption) | assumption); have q21 : ((ji18) : Int) < ((x1_4.length : Int) : Int) := of_decide_eq_true (by first | (with_reducible assumption) | assumption); obtain ⟨hx21_0, hf21_0⟩ := Kd.R_celln false HO_1.out ((ji18) : Int) p21 q21; replace p21 := eq_true p21; replace q21 := eq_true q21; obtain ⟨hy25_, hz25_⟩ := Kd.R_celln false HO_1.out ((ji18) : Int) (of_decide_eq_true (by first | (with_reducible assumption) | assumption)) (of_decide_eq_true (by first | (with_reducible assumption) | assumption)); have HP25 := Kd.R_putg HO_1.out ((ji18) : Int) false) | ((with_reducible refine gate_store (t := 4) (p := 68) rfl ?_); refine store_event (t := 4) (p := 68) (v := ?vo_w26) (w1 := (w24.setCell ⟨go16, ((ji18) : Int).toNat, none⟩ (.bool false))) ?hg ?ho ?hn ?hr ?_; (case ho => rfl); (case hg => rfl); (case hn => rfl); (case hr => first | (go_simp; done) | (go_simp; rfl)); intro w26 hw; have hg : w24.grownBy w26 (some go16) := (by rw [hw]; exact HP25.2); have hp_ : Kd.R Kd.bool 4 w26 w0.heap.size (fun k_ => (P1_ k_ ∨ w.heap.size ≤ k_)) (.slice (some ⟨go16, 0, none⟩) x1_4.length co22) y289 := (by rw [hw, Ny289.out]; exact HP25.1); clear HP25; have n0_ := qq0.mk (hp_); have n1_ := qq0.mk ((by rw [hw]; exact qq4 (HB.out) GB16.out : Below w0.heap.size w0 w26)); have n2_ := qq0.mk (Kept.of_grown (S := (fun k_ => P1_ k_)) hg (by repeat (first | (with_reducible first | exact HK.out | apply Kept.alloc | apply Kept.drewN | apply Kept.drew) | exact HK.out)) (fun k_ e_ => (HO_1.out.1 k_ e_))); clear HO_1; clear HB; clear HK; have HO_1 := n0_; have HB := n1_; have HK := n2_; clear n0_ n1_ n2_; clear hg hw hp_))
                   go_roundg k4
                   case measure => have := HK1.out; have := HK2.out; have := HK3.out; have := HK4.out; omega
                   case rel => exact ⟨(y289), (wrap64 (x7_4 + 1)), (wrap64 (x11_4 + 1)), (by first | rfl | (simp; done) | (simp [*]; done)), (by first | rfl | (simp; done) | (simp [*]; done)), H', ⟨by have := HK1.out; have := HK2.out; have := HK3.out; have := HK4.out; omega⟩, ⟨by (with_reducible repeat (first | apply Kd.R_alloc | apply Kd.R_drewN | apply Kd.R_drew)); exact HO_1.out⟩, ⟨by repeat (first | (with_reducible first | exact HK.out | apply Kept.alloc | apply Kept.drewN | apply Kept.drew) | exact HK.out)⟩, ⟨by repeat (first | (with_reducible first | exact HB.out | apply qq3 | apply qq1 | apply qq2) | exact HB.out)⟩⟩
                  ·rw [if_neg c20] at H
                   exact absurd H (by simp)
                 ·rw [if_neg c19] at H
                  exact absurd H (by simp)
               ·replace c12 := Bool.eq_false_iff.mpr c12
                subst c12
                have H1 : (bitemporalref02_once.l3 k4 l0 x1_4 a2 x7_4 x8_1 x9_2 x10_3 (wrap64 (x11_4 + 1))) = some (r1, r2) := by rw [if_neg (show ¬ (false = true) by decide)] at H; exact H
                clear H
                have H := H1
                clear H1
                have H' := qq0.mk H
                clear H
                obtain ⟨Ao27, co27, eo27⟩ := Kd.R_slice HO_1.out
                subst eo27
                have p285 : 0 ≤ ((ji8) : Int) := of_decide_eq_true (by first | (with_reducible assumption) | assumption)
                have q285 : (ji8) < (x1_4.length : Int) := of_decide_eq_true (by first | (with_reducible assumption) | assumption)
                obtain ⟨ad285, e285, hx285_0⟩ := Kd.at_bool (Kd.R_reads' HO_1.out).2.2 (ji8) p285 q285
                (try rw [← Nbq11.out] at hx285_0)
                cases e285
                replace p285 := eq_true p285
                replace q285 := eq_true q285
                go_wp2
                go_roundg k4
                case measure => have := HK1.out; have := HK2.out; have := HK3.out; have := HK4.out; omega
                case rel => exact ⟨(x1_4), (x7_4), (wrap64 (x11_4 + 1)), (by first | rfl | (simp; done) | (simp [*]; done)), (by first | rfl | (simp; done) | (simp [*]; done)), H', ⟨by have := HK1.out; have := HK2.out; have := HK3.out; have := HK4.out; omega⟩, ⟨by (with_reducible repeat (first | apply Kd.R_alloc | apply Kd.R_drewN | apply Kd.R_drew)); exact HO_1.out⟩, ⟨by repeat (first | (with_reducible first | exact HK.out | apply Kept.alloc | apply Kept.drewN | apply Kept.drew) | exact HK.out)⟩, ⟨by repeat (first | (with_reducible first | exact HB.out | apply qq3 | apply qq1 | apply qq2) | exact HB.out)⟩⟩
              ·rw [if_neg c10] at H
               exact absurd H (by simp)
             ·rw [if_neg c9] at H
              exact absurd H (by simp)
            ·rw [if_neg c7] at H
             have c7b0 : decide (x11_4 < a2) = false := decide_eq_false c7
             clear c7
             have H' := qq0.mk H
             clear H
             go_wp2
             go_roundg k4
             case measure => have := HK1.out; have := HK2.out; have := HK3.out; have := HK4.out; omega
             case rel => exact ⟨(x1_4), (x7_4), (wrap64 (x10_3 + 1)), (by first | rfl | (simp; done) | (simp [*]; done)), (by first | rfl | (simp; done) | (simp [*]; done)), H', ⟨by have := HK1.out; have := HK2.out; have := HK3.out; have := HK4.out; omega⟩, ⟨by (with_reducible repeat (first | apply Kd.R_alloc | apply Kd.R_drewN | apply Kd.R_drew)); exact HO_1.out⟩, ⟨by repeat (first | (with_reducible first | exact HK.out | apply Kept.alloc | apply Kept.drewN | apply Kept.drew) | exact HK.out)⟩, ⟨by repeat (first | (with_reducible first | exact HB.out | apply qq3 | apply qq1 | apply qq2) | exact HB.out)⟩⟩
         ·rw [if_neg c6] at H
          have c6b0 : decide (x10_3 < 13) = false := decide_eq_false c6
          clear c6
          have H' := qq0.mk H
          clear H
          go_wp2
          go_roundg k3
          case measure => have := HK1.out; have := HK2.out; have := HK3.out; omega
          case rel => exact ⟨(x1_3), (x7_3), (wrap64 (x9_2 + 1)), (by first | rfl | (simp; done) | (simp [*]; done)), (by first | rfl | (simp; done) | (simp [*]; done)), H', ⟨by have := HK1.out; have := HK2.out; have := HK3.out; omega⟩, ⟨by (with_reducible repeat (first | apply Kd.R_alloc | apply Kd.R_drewN | apply Kd.R_drew)); exact HO_1.out⟩, ⟨by repeat (first | (with_reducible first | exact HK.out | apply Kept.alloc | apply Kept.drewN | apply Kept.drew) | exact HK.out)⟩, ⟨by repeat (first | (with_reducible first | exact HB.out | apply qq3 | apply qq1 | apply qq2) | exact HB.out)⟩⟩
      ·rw [if_neg c5] at H
       have c5b0 : decide (x9_2 < a2) = false := decide_eq_false c5
       clear c5
       have H' := qq0.mk H
       clear H
       go_wp2
       go_roundg k2
       case measure => have := HK1.out; have := HK2.out; omega
       case rel => exact ⟨(x1_2), (x7_2), (wrap64 (x8_1 + 1)), (by first | rfl | (simp; done) | (simp [*]; done)), (by first | rfl | (simp; done) | (simp [*]; done)), H', ⟨by have := HK1.out; have := HK2.out; omega⟩, ⟨by (with_reducible repeat (first | apply Kd.R_alloc | apply Kd.R_drewN | apply Kd.R_drew)); exact HO_1.out⟩, ⟨by repeat (first | (with_reducible first | exact HK.out | apply Kept.alloc | apply Kept.drewN | apply Kept.drew) | exact HK.out)⟩, ⟨by repeat (first | (with_reducible first | exact HB.out | apply qq3 | apply qq1 | apply qq2) | exact HB.out)⟩⟩
   ·rw [if_neg c4] at H
    have c4b0 : decide (x8_1 < a2) = false := decide_eq_false c4
    clear c4
    simp only [Option.some.injEq, Prod.mk.injEq] at H
    obtain ⟨rfl, rfl⟩ := H
    go_wp2
    go_ret
    exact ⟨by first | rfl | (simp [qz5, qz4] <;> rfl) | (simp [*, qz5, qz4] <;> rfl), by (with_reducible repeat (first | apply Kd.R_alloc | apply Kd.R_drewN | apply Kd.R_drew)); exact HO_1.out, by repeat (first | (with_reducible first | exact HB.out | apply qq3 | apply qq1 | apply qq2) | exact HB.out), by repeat (first | (with_reducible first | exact HK.out | apply Kept.alloc | apply Kept.drewN | apply Kept.drew) | exact HK.out)⟩
end Go.Proofs.Ytoemcdkopnclbaa.A
