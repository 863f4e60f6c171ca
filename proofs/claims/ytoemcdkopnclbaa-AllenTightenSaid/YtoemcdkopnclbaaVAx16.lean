-- Written by a program (given_print.py of this session, over the kit's print.py): all laws of the seat in one namespace, some functions proved by hand elsewhere. Lean checks it.
import Derived.Test.YtoemcdkopnclbaaVAx0
import Derived.Test.YtoemcdkopnclbaaVAx11
import Derived.Test.YtoemcdkopnclbaaVAx15
namespace Go.Proofs.Ytoemcdkopnclbaa.A
open Go.RowKit Go.Proofs.YtoemcdkopnclbaaW.PrintWords Go.Proofs.YtoemcdkopnclbaaW.PrintLast Go.Proofs.YtoemcdkopnclbaaW.PrintMore
attribute [local go_sem] max2_int min2_int max_two min_two max_three min_three max_four min_four
set_option linter.unusedVariables false
set_option linter.unusedSimpArgs false
mutual
def bitemporalref02_start.l0 : Nat → Int → List (S51) → List Bool → Int → Option (List Bool)
 | 0, _, _, _, _ => none
 | k + 1, x0, x1, x5, x6 => if x6 < x0 then (bitemporalref02_start.l1 k x0 x1 x5 x6 0) else (bitemporalref02_start.l3 k x0 x1 x5 0)
def bitemporalref02_start.l1 : Nat → Int → List (S51) → List Bool → Int → Int → Option (List Bool)
 | 0, _, _, _, _, _ => none
 | k + 1, x0, x1, x5, x6, x7 => if x7 < x0 then (bitemporalref02_start.l2 k x0 x1 x5 x6 x7 0) else (bitemporalref02_start.l0 k x0 x1 x5 (wrap64 (x6 + 1)))
def bitemporalref02_start.l2 : Nat → Int → List (S51) → List Bool → Int → Int → Int → Option (List Bool)
 | 0, _, _, _, _, _, _ => none
 | k + 1, x0, x1, x5, x6, x7, x8 => if x8 < 13 then (if x6 = x7 then (if 0 ≤ (wrap64 ((wrap64 (13 * (wrap64 ((wrap64 (x0 * x6)) + x7)))) + x8)) then (if (wrap64 ((wrap64 (13 * (wrap64 ((wrap64 (x0 * x6)) + x7)))) + x8)) < (x5.length : Int) then (bitemporalref02_start.l2 k x0 x1 (x5.set ((wrap64 ((wrap64 (13 * (wrap64 ((wrap64 (x0 * x6)) + x7)))) + x8)) : Int).toNat (x8 == 6)) x6 x7 (wrap64 (x8 + 1))) else (none)) else (none)) else (if 0 ≤ (wrap64 ((wrap64 (13 * (wrap64 ((wrap64 (x0 * x6)) + x7)))) + x8)) then (if (wrap64 ((wrap64 (13 * (wrap64 ((wrap64 (x0 * x6)) + x7)))) + x8)) < (x5.length : Int) then (bitemporalref02_start.l2 k x0 x1 (x5.set ((wrap64 ((wrap64 (13 * (wrap64 ((wrap64 (x0 * x6)) + x7)))) + x8)) : Int).toNat true) x6 x7 (wrap64 (x8 + 1))) else (none)) else (none))) else (bitemporalref02_start.l1 k x0 x1 x5 x6 (wrap64 (x7 + 1)))
def bitemporalref02_start.l3 : Nat → Int → List (S51) → List Bool → Int → Option (List Bool)
 | 0, _, _, _, _ => none
 | k + 1, x0, x1, x5, x9 => if x9 < (x1.length : Int) then (bitemporalref02_start.l4 k x0 x1 x5 x9 0) else (some x5)
def bitemporalref02_start.l4 : Nat → Int → List (S51) → List Bool → Int → Int → Option (List Bool)
 | 0, _, _, _, _, _ => none
 | k + 1, x0, x1, x5, x9, x10 => if x10 < 13 then (if 0 ≤ x9 then (if x9 < (x1.length : Int) then ((bitemporalref02_in.f k ((qz3 x1 x9).f2) x10).bind fun t274 => (if t274 = true then (bitemporalref02_start.l4 k x0 x1 x5 x9 (wrap64 (x10 + 1))) else (if 0 ≤ (wrap64 ((wrap64 (13 * (wrap64 ((wrap64 (x0 * ((qz3 x1 x9).f0))) + ((qz3 x1 x9).f1))))) + x10)) then (if (wrap64 ((wrap64 (13 * (wrap64 ((wrap64 (x0 * ((qz3 x1 x9).f0))) + ((qz3 x1 x9).f1))))) + x10)) < (x5.length : Int) then ((bitemporalref02_Inverse.f x10).bind fun t280 => (if 0 ≤ (wrap64 ((wrap64 (13 * (wrap64 ((wrap64 (x0 * ((qz3 x1 x9).f1))) + ((qz3 x1 x9).f0))))) + t280)) then (if (wrap64 ((wrap64 (13 * (wrap64 ((wrap64 (x0 * ((qz3 x1 x9).f1))) + ((qz3 x1 x9).f0))))) + t280)) < (x5.length : Int) then (bitemporalref02_start.l4 k x0 x1 ((x5.set ((wrap64 ((wrap64 (13 * (wrap64 ((wrap64 (x0 * ((qz3 x1 x9).f0))) + ((qz3 x1 x9).f1))))) + x10)) : Int).toNat false).set ((wrap64 ((wrap64 (13 * (wrap64 ((wrap64 (x0 * ((qz3 x1 x9).f1))) + ((qz3 x1 x9).f0))))) + t280)) : Int).toNat false) x9 (wrap64 (x10 + 1))) else (none)) else (none))) else (none)) else (none)))) else (none)) else (none)) else (bitemporalref02_start.l3 k x0 x1 x5 (wrap64 (x9 + 1)))
end
def bitemporalref02_start.f (k : Nat) (a0 : Int) (l1 : List (S51)) : Option (List Bool) := if 0 ≤ (wrap64 ((wrap64 (13 * a0)) * a0)) then (if (wrap64 ((wrap64 (13 * a0)) * a0) : Int).toNat ≤ 281474976710656 then (bitemporalref02_start.l0 k a0 l1 (List.replicate (wrap64 ((wrap64 (13 * a0)) * a0) : Int).toNat false) 0) else (none)) else (none)
def bitemporalref02_start.T19 : Bool × List (List Nat × List Nat) := (true, [([], []), ([], []), ([], []), ([], []), ([2, 3], [2, 3]), ([4], [4]), ([5], [5]), ([1, 6], [1, 6]), ([], []), ([], []), ([8, 9], [8, 9]), ([10], [10]), ([11], [11]), ([7, 12], [7, 12]), ([13], [13]), ([], []), ([14, 15], [14, 15]), ([0, 16, 0, 1, 2, 3, 4, 5, 6, 7, 8, 9, 10, 11, 12, 13, 14, 15, 16], [0, 16]), ([17, 0, 1, 2, 3, 4, 5, 6, 7, 8, 9, 10, 11, 12, 13, 14, 15, 16], [17])])
def bitemporalref02_start.B19 : List Nat := [0, 0, 0, 0, 12, 28, 60, 126, 0, 0, 768, 1792, 3840, 8190, 16382, 0, 65534, 131071, 262143]
theorem bitemporalref02_start.tab19 : rtab .any (opsOf Try.f40 19) = bitemporalref02_start.T19 := by kernel_rfl
theorem bitemporalref02_start.bits19 : waitsOk bitemporalref02_start.T19.2 bitemporalref02_start.B19 = true := by kernel_rfl
def bitemporalref02_start.T20 : Bool × List (List Nat × List Nat) := (true, [([], []), ([], []), ([], []), ([], []), ([2, 3], [2, 3]), ([4], [4]), ([5], [5]), ([1, 6], [1, 6]), ([], []), ([], []), ([8, 9], [8, 9]), ([10], [10]), ([11], [11]), ([7, 12], [7, 12]), ([13], [13]), ([], []), ([15], [15]), ([14, 16], [14, 16]), ([0, 17, 0, 1, 2, 3, 4, 5, 6, 7, 8, 9, 10, 11, 12, 13, 14, 15, 16, 17], [0, 17]), ([18, 16, 0, 1, 2, 3, 4, 5, 6, 7, 8, 9, 10, 11, 12, 13, 14, 15, 16, 17], [18])])
def bitemporalref02_start.B20 : List Nat := [0, 0, 0, 0, 12, 28, 60, 126, 0, 0, 768, 1792, 3840, 8190, 16382, 0, 32768, 131070, 262143, 524287]
theorem bitemporalref02_start.tab20 : rtab .any (opsOf Try.f40 20) = bitemporalref02_start.T20 := by kernel_rfl
theorem bitemporalref02_start.bits20 : waitsOk bitemporalref02_start.T20.2 bitemporalref02_start.B20 = true := by kernel_rfl
set_option maxHeartbeats 8000000 in
set_option maxRecDepth 100000 in
theorem bitemporalref02_start.calls (k : Nat) (a0 : Int) (A1 : Option Addr) (c1 : Nat) (l1 : List (S51)) (r : List Bool) (w : World) (hr1 : Kd.C k51 w A1 l1.length l1) (hc1 : l1.length ≤ c1) (h : bitemporalref02_start.f k a0 l1 = some r) :
  Calls Try.prog 40 #[.int .i64 a0, .slice A1 l1.length c1] w fun e w' => ∃ v0_ : Value, e = .returned (v0_) ∧ Kd.R Kd.bool 4 w' w.heap.size (fun _ => True) v0_ r ∧ Below w.heap.size w w' := by
 have HR1 := qq0.mk hr1
 have HC1 := qq0.mk hc1
 clear hr1 hc1
 have HB := qq0.mk (Below.refl w.heap.size w)
 have H : (if 0 ≤ (wrap64 ((wrap64 (13 * a0)) * a0)) then (if (wrap64 ((wrap64 (13 * a0)) * a0) : Int).toNat ≤ 281474976710656 then (bitemporalref02_start.l0 k a0 l1 (List.replicate (wrap64 ((wrap64 (13 * a0)) * a0) : Int).toNat false) 0) else (none)) else (none)) = some r := h
 clear h
 obtain ⟨ji3, hji3⟩ : ∃ j_ : Int, (wrap64 ((wrap64 (13 * a0)) * a0)) = j_ := ⟨_, rfl⟩
 replace H : (if 0 ≤ (ji3) then (if (ji3 : Int).toNat ≤ 281474976710656 then (bitemporalref02_start.l0 k a0 l1 (List.replicate (ji3 : Int).toNat false) 0) else (none)) else (none)) = some r := by first | (rw [hji3] at H; exact H) | (simp only [hji3] at H ⊢; exact H)
 have hji3w : (IntKind.i64.wrap ((wrap64 (13 * a0)) * a0)) = ji3 := (i64_w _).trans hji3
 by_cases c4 : 0 ≤ (ji3)
 ·rw [if_pos c4] at H
  have c4b0 := eq_true c4
  have c4b1 : decide (0 ≤ (ji3)) = true := decide_eq_true c4
  clear c4
  by_cases c5 : (ji3 : Int).toNat ≤ 281474976710656
  ·rw [if_pos c5] at H
   have c5b0 := eq_true c5
   have c5b1 : decide ((ji3 : Int).toNat ≤ 281474976710656) = true := decide_eq_true c5
   clear c5
   obtain ⟨y268, hy268⟩ : ∃ y_ : List Bool, y_ = (List.replicate (ji3 : Int).toNat false) := ⟨_, rfl⟩
   replace H : (bitemporalref02_start.l0 k a0 l1 y268 0) = some r := by first | (rw [hy268]; with_reducible exact H) | (have H2_ := (Option.bind_some _ _).symm.trans H; rw [hy268]; with_reducible exact H2_) | (have H2_ := (Option.bind_some _ _).symm.trans H; with_reducible exact H2_) | with_reducible exact H | (rw [hy268]; exact H) | exact H
   have Ny268 := qq0.mk hy268
   clear hy268
   have H' := qq0.mk H
   clear H
   go_enter Try.func40, Try.ntmps40
   go_wp2_with (first | ((with_reducible refine qz7 (N := 15) rfl ?_); refine Kd.R_make Kd.bool _ 4 rfl (N := 15) rfl 63 _ _ rfl ji3 rfl rfl Try.underlying63 (.bool false) 1 info4 rfl (by decide) (by omega) false (ok := fun _ => True) (okp := fun _ => True) rfl (fun _ hk => hk) trivial (of_decide_eq_true (by first | (with_reducible assumption) | assumption)) (Nat.le_trans (Nat.mul_le_mul_right _ (of_decide_eq_true (by first | (with_reducible assumption) | assumption) : ji3.toNat ≤ 281474976710656)) (by omega)) (Below.refl _ _) (Nat.le_refl _) ?_; intro v269 w6 ho7 hb hg_ hnew_; clear hg_ hnew_; (first | rw [← Ny268.out] at ho7 | (simp only [Int.reduceToNat] at ho7; rw [← Ny268.out] at ho7)); have n0_ := qq0.mk (Kd.R_lower ho7 (qz2 (by repeat (first | (with_reducible first | exact HB.out | apply qq3 | apply qq1 | apply qq2) | exact HB.out)))); have n1_ := qq0.mk (qq7 (by repeat (first | (with_reducible first | exact HB.out | apply qq3 | apply qq1 | apply qq2) | exact HB.out)) hb); clear HB; have HO270 := n0_; have HB := n1_; clear n0_ n1_; clear hb ho7))
   go_loopg [6] k (fun kq v6 w' => ∃ (x5_1 : List Bool) (x6_1 : Int), v6 = .int .i64 x6_1 ∧ qq0 (bitemporalref02_start.l0 kq a0 l1 x5_1 x6_1 = some r) ∧ qq0 (kq ≤ k) ∧ qq0 (Kd.R Kd.bool 4 w' w.heap.size (fun _ => True) v269 x5_1) ∧ qq0 (Below w.heap.size w w'))
   case atStart => exact ⟨(y268), (0), (by first | rfl | (simp; done) | (simp [*]; done)), H', ⟨Nat.le_refl _⟩, ⟨by (with_reducible repeat (first | apply Kd.R_alloc | apply Kd.R_drewN | apply Kd.R_drew)); exact HO270.out⟩, ⟨by repeat (first | (with_reducible first | exact HB.out | apply qq3 | apply qq1 | apply qq2) | exact HB.out)⟩⟩
   case round =>
    clear H'
    try clear c1
    try clear p2
    try clear c4
    try clear c4b0
    try clear c4b1
    try clear c5
    try clear c5b0
    try clear c5b1
    try clear p6
    obtain ⟨x5_1, x6_1, rfl, HA, HK1, HO_5, HB⟩ := hrel
    cases gk with
    | zero => exact absurd HA.out (by simp [bitemporalref02_start.l0])
    | succ k1 =>
     have H := HA.out
     clear HA
     simp only [bitemporalref02_start.l0] at H
     by_cases c8 : x6_1 < a0
     ·rw [if_pos c8] at H
      have c8b0 : decide (x6_1 < a0) = true := decide_eq_true c8
      clear c8
      have H' := qq0.mk H
      clear H
      go_wp2
      go_loopg [7] k1 (fun kq v7 w' => ∃ (x5_2 : List Bool) (x7_2 : Int), v7 = .int .i64 x7_2 ∧ qq0 (bitemporalref02_start.l1 kq a0 l1 x5_2 x6_1 x7_2 = some r) ∧ qq0 (kq ≤ k1) ∧ qq0 (Kd.R Kd.bool 4 w' w.heap.size (fun _ => True) v269 x5_2) ∧ qq0 (Below w.heap.size w w'))
      case atStart => exact ⟨(x5_1), (0), (by first | rfl | (simp; done) | (simp [*]; done)), H', ⟨Nat.le_refl _⟩, ⟨by (with_reducible repeat (first | apply Kd.R_alloc | apply Kd.R_drewN | apply Kd.R_drew)); exact HO_5.out⟩, ⟨by repeat (first | (with_reducible first | exact HB.out | apply qq3 | apply qq1 | apply qq2) | exact HB.out)⟩⟩
      case round =>
       clear H'
       try clear c1
       try clear p2
       try clear c4
       try clear c4b0
       try clear c4b1
       try clear c5
       try clear c5b0
       try clear c5b1
       try clear p6
       try clear c8
       try clear c8b0
       try clear p2
       try clear p6
       obtain ⟨x5_2, x7_2, rfl, HA, HK2, HO_5, HB⟩ := hrel
       cases gk with
       | zero => exact absurd HA.out (by simp [bitemporalref02_start.l1])
       | succ k2 =>
        have H := HA.out
        clear HA
        simp only [bitemporalref02_start.l1] at H
        by_cases c9 : x7_2 < a0
        ·rw [if_pos c9] at H
         have c9b0 : decide (x7_2 < a0) = true := decide_eq_true c9
         clear c9
         have H' := qq0.mk H
         clear H
         go_wp2
         go_loopg [8] k2 (fun kq v8 w' => ∃ (x5_3 : List Bool) (x8_3 : Int), v8 = .int .i64 x8_3 ∧ qq0 (bitemporalref02_start.l2 kq a0 l1 x5_3 x6_1 x7_2 x8_3 = some r) ∧ qq0 (kq ≤ k2) ∧ qq0 (Kd.R Kd.bool 4 w' w.heap.size (fun _ => True) v269 x5_3) ∧ qq0 (Below w.heap.size w w'))
         case atStart => exact ⟨(x5_2), (0), (by first | rfl | (simp; done) | (simp [*]; done)), H', ⟨Nat.le_refl _⟩, ⟨by (with_reducible repeat (first | apply Kd.R_alloc | apply Kd.R_drewN | apply Kd.R_drew)); exact HO_5.out⟩, ⟨by repeat (first | (with_reducible first | exact HB.out | apply qq3 | apply qq1 | apply qq2) | exact HB.out)⟩⟩
         case round =>
          clear H'
          try clear c1
          try clear p2
          try clear c4
          try clear c4b0
          try clear c4b1
          try clear c5
          try clear c5b0
          try clear c5b1
          try clear p6
          try clear c8
          try clear c8b0
          try clear c9
          try clear c9b0
          try clear p2
          try clear p6
          obtain ⟨x5_3, x8_3, rfl, HA, HK3, HO_5, HB⟩ := hrel
          cases gk with
          | zero => exact absurd HA.out (by simp [bitemporalref02_start.l2])
          | succ k3 =>
           have H := HA.out
           clear HA
           simp only [bitemporalref02_start.l2] at H
           by_cases c10 : x8_3 < 13
           ·rw [if_pos c10] at H
            have c10b0 : decide (x8_3 < 13) = true := decide_eq_true c10
            clear c10
            by_cases c11 : x6_1 = x7_2
            ·rw [if_pos c11] at H
             have c11b0 : (x6_1 == x7_2) = true := beq_iff_eq.mpr c11
             have c11b1 : (x6_1 != x7_2) = false := bne_eq_false_iff_eq.mpr c11
             clear c11
             obtain ⟨ji12, hji12⟩ : ∃ j_ : Int, (wrap64 ((wrap64 (13 * (wrap64 ((wrap64 (a0 * x6_1)) + x7_2)))) + x8_3)) = j_ := ⟨_, rfl⟩
             replace H : (if 0 ≤ (ji12) then (if (ji12) < (x5_3.length : Int) then (bitemporalref02_start.l2 k3 a0 l1 (x5_3.set ((ji12) : Int).toNat (x8_3 == 6)) x6_1 x7_2 (wrap64 (x8_3 + 1))) else (none)) else (none)) = some r := by first | (rw [hji12] at H; exact H) | (simp only [hji12] at H ⊢; exact H)
             have hji12w : (IntKind.i64.wrap ((wrap64 (13 * (wrap64 ((wrap64 (a0 * x6_1)) + x7_2)))) + x8_3)) = ji12 := (i64_w _).trans hji12
             by_cases c13 : 0 ≤ (ji12)
             ·rw [if_pos c13] at H
              have c13b0 : decide (0 ≤ (ji12)) = true := decide_eq_true c13
              clear c13
              by_cases c14 : (ji12) < (x5_3.length : Int)
              ·rw [if_pos c14] at H
               have c14b0 : decide ((ji12) < (x5_3.length : Int)) = true := decide_eq_true c14
               clear c14
               obtain ⟨y271, hy271⟩ : ∃ y_ : List Bool, y_ = (x5_3.set ((ji12) : Int).toNat (x8_3 == 6)) := ⟨_, rfl⟩
               replace H : (bitemporalref02_start.l2 k3 a0 l1 y271 x6_1 x7_2 (wrap64 (x8_3 + 1))) = some r := by first | (rw [hy271]; with_reducible exact H) | (have H2_ := (Option.bind_some _ _).symm.trans H; rw [hy271]; with_reducible exact H2_) | (have H2_ := (Option.bind_some _ _).symm.trans H; with_reducible exact H2_) | with_reducible exact H | (rw [hy271]; exact H) | exact H
               have Ny271 := qq0.mk hy271
               clear hy271
               have H' := qq0.mk H
               clear H
               have p15 : 0 ≤ ((ji12) : Int) := of_decide_eq_true (by first | (with_reducible assumption) | assumption)
               have q15 : ((ji12) : Int) < ((x5_3.length : Int) : Int) := of_decide_eq_true (by first | (with_reducible assumption) | assumption)
               obtain ⟨go15, co15, eo15, gb15, gl15, cl15, HG15⟩ := Kd.R_form HO_5.out (by omega)
               (first | cases eo15 | (injection eo15 with ea_ en_ ec_; (first | subst ea_ | (injection ea_ with ea_; subst ea_)); subst ec_; clear en_))
               have GB15 := qq0.mk gb15
               have GG15 := qq0.mk HG15
               clear gb15 gl15 HG15
               obtain ⟨hx15_0, hf15_0⟩ := Kd.R_celln false HO_5.out ((ji12) : Int) p15 q15
               replace p15 := eq_true p15
               replace q15 := eq_true q15
               have HP16 := Kd.R_putg HO_5.out ((ji12) : Int) (x8_3 == 6)
               go_wp2_with (first | ((with_reducible refine gate_store (t := 4) (p := 46) rfl ?_); refine store_event (t := 4) (p := 46) (v := ?vo_w17) (w1 := (wr.setCell ⟨go15, ((ji12) : Int).toNat, none⟩ (.bool (x8_3 == 6)))) ?hg ?ho ?hn ?hr ?_; (case ho => rfl); (case hg => rfl); (case hn => rfl); (case hr => first | (go_simp; done) | (go_simp; rfl)); intro w17 hw; have hg : wr.grownBy w17 (some go15) := (by rw [hw]; exact HP16.2); have hp_ : Kd.R Kd.bool 4 w17 w.heap.size (fun _ => True) (.slice (some ⟨go15, 0, none⟩) x5_3.length co15) y271 := (by rw [hw, Ny271.out]; exact HP16.1); clear HP16; have n0_ := qq0.mk (hp_); have n1_ := qq0.mk ((by rw [hw]; exact qq4 (HB.out) GB15.out : Below w.heap.size w w17)); clear HO_5; clear HB; have HO_5 := n0_; have HB := n1_; clear n0_ n1_; clear hg hw hp_))
               go_roundg k3
               case measure => have := HK1.out; have := HK2.out; have := HK3.out; omega
               case rel => exact ⟨(y271), (wrap64 (x8_3 + 1)), (by first | rfl | (simp; done) | (simp [*]; done)), H', ⟨by have := HK1.out; have := HK2.out; have := HK3.out; omega⟩, ⟨by (with_reducible repeat (first | apply Kd.R_alloc | apply Kd.R_drewN | apply Kd.R_drew)); exact HO_5.out⟩, ⟨by repeat (first | (with_reducible first | exact HB.out | apply qq3 | apply qq1 | apply qq2) | exact HB.out)⟩⟩
              ·rw [if_neg c14] at H
               exact absurd H (by simp)
             ·rw [if_neg c13] at H
              exact absurd H (by simp)
            ·rw [if_neg c11] at H
             have c11b0 : (x6_1 == x7_2) = false := beq_eq_false_iff_ne.mpr c11
             have c11b1 : (x6_1 != x7_2) = true := bne_iff_ne.mpr c11
             obtain ⟨ji18, hji18⟩ : ∃ j_ : Int, (wrap64 ((wrap64 (13 * (wrap64 ((wrap64 (a0 * x6_1)) + x7_2)))) + x8_3)) = j_ := ⟨_, rfl⟩
             replace H : (if 0 ≤ (ji18) then (if (ji18) < (x5_3.length : Int) then (bitemporalref02_start.l2 k3 a0 l1 (x5_3.set ((ji18) : Int).toNat true) x6_1 x7_2 (wrap64 (x8_3 + 1))) else (none)) else (none)) = some r := by first | (rw [hji18] at H; exact H) | (simp only [hji18] at H ⊢; exact H)
             have hji18w : (IntKind.i64.wrap ((wrap64 (13 * (wrap64 ((wrap64 (a0 * x6_1)) + x7_2)))) + x8_3)) = ji18 := (i64_w _).trans hji18
             by_cases c19 : 0 ≤ (ji18)
             ·rw [if_pos c19] at H
              have c19b0 : decide (0 ≤ (ji18)) = true := decide_eq_true c19
              clear c19
              by_cases c20 : (ji18) < (x5_3.length : Int)
              ·rw [if_pos c20] at H
               have c20b0 : decide ((ji18) < (x5_3.length : Int)) = true := decide_eq_true c20
               clear c20
               obtain ⟨y272, hy272⟩ : ∃ y_ : List Bool, y_ = (x5_3.set ((ji18) : Int).toNat true) := ⟨_, rfl⟩
               replace H : (bitemporalref02_start.l2 k3 a0 l1 y272 x6_1 x7_2 (wrap64 (x8_3 + 1))) = some r := by first | (rw [hy272]; with_reducible exact H) | (have H2_ := (Option.bind_some _ _).symm.trans H; rw [hy272]; with_reducible exact H2_) | (have H2_ := (Option.bind_some _ _).symm.trans H; with_reducible exact H2_) | with_reducible exact H | (rw [hy272]; exact H) | exact H
               have Ny272 := qq0.mk hy272
               clear hy272
               have H' := qq0.mk H
               clear H
               have p21 : 0 ≤ ((ji18) : Int) := of_decide_eq_true (by first | (with_reducible assumption) | assumption)
               have q21 : ((ji18) : Int) < ((x5_3.length : Int) : Int) := of_decide_eq_true (by first | (with_reducible assumption) | assumption)
               obtain ⟨go21, co21, eo21, gb21, gl21, cl21, HG21⟩ := Kd.R_form HO_5.out (by omega)
               (first | cases eo21 | (injection eo21 with ea_ en_ ec_; (first | subst ea_ | (injection ea_ with ea_; subst ea_)); subst ec_; clear en_))
               have GB21 := qq0.mk gb21
               have GG21 := qq0.mk HG21
               clear gb21 gl21 HG21
               obtain ⟨hx21_0, hf21_0⟩ := Kd.R_celln false HO_5.out ((ji18) : Int) p21 q21
               replace p21 := eq_true p21
               replace q21 := eq_true q21
               have HP22 := Kd.R_putg HO_5.out ((ji18) : Int) true
               go_wp2_with (first | ((with_reducible refine gate_store (t := 4) (p := 46) rfl ?_); refine store_event (t := 4) (p := 46) (v := ?vo_w23) (w1 := (wr.setCell ⟨go21, ((ji18) : Int).toNat, none⟩ (.bool true))) ?hg ?ho ?hn ?hr ?_; (case ho => rfl); (case hg => rfl); (case hn => rfl); (case hr => first | (go_simp; done) | (go_simp; rfl)); intro w23 hw; have hg : wr.grownBy w23 (some go21) := (by rw [hw]; exact HP22.2); have hp_ : Kd.R Kd.bool 4 w23 w.heap.size (fun _ => True) (.slice (some ⟨go21, 0, none⟩) x5_3.length co21) y272 := (by rw [hw, Ny272.out]; exact HP22.1); clear HP22; have n0_ := qq0.mk (hp_); have n1_ := qq0.mk ((by rw [hw]; exact qq4 (HB.out) GB21.out : Below w.heap.size w w23)); clear HO_5; clear HB; have HO_5 := n0_; have HB := n1_; clear n0_ n1_; clear hg hw hp_))
               go_roundg k3
               case measure => have := HK1.out; have := HK2.out; have := HK3.out; omega
               case rel => exact ⟨(y272), (wrap64 (x8_3 + 1)), (by first | rfl | (simp; done) | (simp [*]; done)), H', ⟨by have := HK1.out; have := HK2.out; have := HK3.out; omega⟩, ⟨by (with_reducible repeat (first | apply Kd.R_alloc | apply Kd.R_drewN | apply Kd.R_drew)); exact HO_5.out⟩, ⟨by repeat (first | (with_reducible first | exact HB.out | apply qq3 | apply qq1 | apply qq2) | exact HB.out)⟩⟩
              ·rw [if_neg c20] at H
               exact absurd H (by simp)
             ·rw [if_neg c19] at H
              exact absurd H (by simp)
           ·rw [if_neg c10] at H
            have c10b0 : decide (x8_3 < 13) = false := decide_eq_false c10
            clear c10
            have H' := qq0.mk H
            clear H
            go_wp2
            go_roundg k3
            case measure => have := HK1.out; have := HK2.out; have := HK3.out; omega
            case rel => exact ⟨(x5_3), (wrap64 (x7_2 + 1)), (by first | rfl | (simp; done) | (simp [*]; done)), H', ⟨by have := HK1.out; have := HK2.out; have := HK3.out; omega⟩, ⟨by (with_reducible repeat (first | apply Kd.R_alloc | apply Kd.R_drewN | apply Kd.R_drew)); exact HO_5.out⟩, ⟨by repeat (first | (with_reducible first | exact HB.out | apply qq3 | apply qq1 | apply qq2) | exact HB.out)⟩⟩
        ·rw [if_neg c9] at H
         have c9b0 : decide (x7_2 < a0) = false := decide_eq_false c9
         clear c9
         have H' := qq0.mk H
         clear H
         go_wp2
         go_roundg k2
         case measure => have := HK1.out; have := HK2.out; omega
         case rel => exact ⟨(x5_2), (wrap64 (x6_1 + 1)), (by first | rfl | (simp; done) | (simp [*]; done)), H', ⟨by have := HK1.out; have := HK2.out; omega⟩, ⟨by (with_reducible repeat (first | apply Kd.R_alloc | apply Kd.R_drewN | apply Kd.R_drew)); exact HO_5.out⟩, ⟨by repeat (first | (with_reducible first | exact HB.out | apply qq3 | apply qq1 | apply qq2) | exact HB.out)⟩⟩
     ·rw [if_neg c8] at H
      have c8b0 : decide (x6_1 < a0) = false := decide_eq_false c8
      clear c8
      have H' := qq0.mk H
      clear H
      go_wp2
      go_loopg [9] k1 (fun kq v9 w' => ∃ (x5_2 : List Bool) (x9_2 : Int), v9 = .int .i64 x9_2 ∧ qq0 (bitemporalref02_start.l3 kq a0 l1 x5_2 x9_2 = some r) ∧ qq0 (kq ≤ k1) ∧ qq0 (Kd.R Kd.bool 4 w' w.heap.size (fun _ => True) v269 x5_2) ∧ qq0 (Below w.heap.size w w'))
      case atStart => exact ⟨(x5_1), (0), (by first | rfl | (simp; done) | (simp [*]; done)), H', ⟨Nat.le_refl _⟩, ⟨by (with_reducible repeat (first | apply Kd.R_alloc | apply Kd.R_drewN | apply Kd.R_drew)); exact HO_5.out⟩, ⟨by repeat (first | (with_reducible first | exact HB.out | apply qq3 | apply qq1 | apply qq2) | exact HB.out)⟩⟩
      case round =>
       clear H'
       try clear c1
       try clear p1
       try clear q1
       try clear hx1
       try clear c2
       try clear p2
       try clear q2
       try clear hx2
       try clear hf2
       try clear c4
       try clear c4b0
       try clear c4b1
       try clear c5
       try clear c5b0
       try clear c5b1
       try clear p6
       try clear c8
       try clear c8b0
       try clear c9
       try clear c9b0
       try clear c10
       try clear c10b0
       try clear c11
       try clear c11b0
       try clear c11b1
       try clear c13
       try clear c13b0
       try clear c14
       try clear c14b0
       try clear p15
       try clear q15
       try clear hx15
       try clear hf15
       try clear c19
       try clear c19b0
       try clear c20
       try clear c20b0
       try clear p21
       try clear q21
       try clear hx21
       try clear hf21
       try clear hx15_0
       try clear hx21_0
       try clear p15
       try clear p2
       try clear p21
       try clear p6
       try clear q15
       try clear q21
       obtain ⟨x5_2, x9_2, rfl, HA, HK2, HO_5, HB⟩ := hrel
       cases gk with
       | zero => exact absurd HA.out (by simp [bitemporalref02_start.l3])
       | succ k2 =>
        have H := HA.out
        clear HA
        simp only [bitemporalref02_start.l3] at H
        by_cases c24 : x9_2 < (l1.length : Int)
        ·rw [if_pos c24] at H
         have c24b0 : decide (x9_2 < (l1.length : Int)) = true := decide_eq_true c24
         clear c24
         have H' := qq0.mk H
         clear H
         go_wp2
         go_loopg [10] k2 (fun kq v10 w' => ∃ (x5_3 : List Bool) (x10_3 : Int), v10 = .int .i64 x10_3 ∧ qq0 (bitemporalref02_start.l4 kq a0 l1 x5_3 x9_2 x10_3 = some r) ∧ qq0 (kq ≤ k2) ∧ qq0 (Kd.R Kd.bool 4 w' w.heap.size (fun _ => True) v269 x5_3) ∧ qq0 (Below w.heap.size w w'))
         case atStart => exact ⟨(x5_2), (0), (by first | rfl | (simp; done) | (simp [*]; done)), H', ⟨Nat.le_refl _⟩, ⟨by (with_reducible repeat (first | apply Kd.R_alloc | apply Kd.R_drewN | apply Kd.R_drew)); exact HO_5.out⟩, ⟨by repeat (first | (with_reducible first | exact HB.out | apply qq3 | apply qq1 | apply qq2) | exact HB.out)⟩⟩
         case round =>
          clear H'
          try clear c1
          try clear p1
          try clear q1
          try clear hx1
          try clear c2
          try clear p2
          try clear q2
          try clear hx2
          try clear hf2
          try clear c4
          try clear c4b0
          try clear c4b1
          try clear c5
          try clear c5b0
          try clear c5b1
          try clear p6
          try clear c8
          try clear c8b0
          try clear c9
          try clear c9b0
          try clear c10
          try clear c10b0
          try clear c11
          try clear c11b0
          try clear c11b1
          try clear c13
          try clear c13b0
          try clear c14
          try clear c14b0
          try clear p15
          try clear q15
          try clear hx15
          try clear hf15
          try clear c19
          try clear c19b0
          try clear c20
          try clear c20b0
          try clear p21
          try clear q21
          try clear hx21
          try clear hf21
          try clear c24
          try clear c24b0
          try clear hx15_0
          try clear hx21_0
          try clear p1
          try clear p15
          try clear p2
          try clear p21
          try clear p6
          try clear q1
          try clear q15
          try clear q2
          try clear q21
          obtain ⟨x5_3, x10_3, rfl, HA, HK3, HO_5, HB⟩ := hrel
          cases gk with
          | zero => exact absurd HA.out (by simp [bitemporalref02_start.l4])
          | succ k3 =>
           have H := HA.out
           clear HA
           simp only [bitemporalref02_start.l4] at H
           by_cases c25 : x10_3 < 13
           ·rw [if_pos c25] at H
            have c25b0 : decide (x10_3 < 13) = true := decide_eq_true c25
            clear c25
            by_cases c26 : 0 ≤ x9_2
            ·rw [if_pos c26] at H
             have c26b0 : decide (0 ≤ x9_2) = true := decide_eq_true c26
             clear c26
             by_cases c27 : x9_2 < (l1.length : Int)
             ·rw [if_pos c27] at H
              have c27b0 : decide (x9_2 < (l1.length : Int)) = true := decide_eq_true c27
              clear c27
              replace H := Option.bind_eq_some_iff.mp H
              obtain ⟨t274, A280, H⟩ := H
              replace H : (if t274 = true then (bitemporalref02_start.l4 k3 a0 l1 x5_3 x9_2 (wrap64 (x10_3 + 1))) else (if 0 ≤ (wrap64 ((wrap64 (13 * (wrap64 ((wrap64 (a0 * ((qz3 l1 x9_2).f0))) + ((qz3 l1 x9_2).f1))))) + x10_3)) then (if (wrap64 ((wrap64 (13 * (wrap64 ((wrap64 (a0 * ((qz3 l1 x9_2).f0))) + ((qz3 l1 x9_2).f1))))) + x10_3)) < (x5_3.length : Int) then ((bitemporalref02_Inverse.f x10_3).bind fun t280 => (if 0 ≤ (wrap64 ((wrap64 (13 * (wrap64 ((wrap64 (a0 * ((qz3 l1 x9_2).f1))) + ((qz3 l1 x9_2).f0))))) + t280)) then (if (wrap64 ((wrap64 (13 * (wrap64 ((wrap64 (a0 * ((qz3 l1 x9_2).f1))) + ((qz3 l1 x9_2).f0))))) + t280)) < (x5_3.length : Int) then (bitemporalref02_start.l4 k3 a0 l1 ((x5_3.set ((wrap64 ((wrap64 (13 * (wrap64 ((wrap64 (a0 * ((qz3 l1 x9_2).f0))) + ((qz3 l1 x9_2).f1))))) + x10_3)) : Int).toNat false).set ((wrap64 ((wrap64 (13 * (wrap64 ((wrap64 (a0 * ((qz3 l1 x9_2).f1))) + ((qz3 l1 x9_2).f0))))) + t280)) : Int).toNat false) x9_2 (wrap64 (x10_3 + 1))) else (none)) else (none))) else (none)) else (none))) = some r := H
              have A28 := qq0.mk A280
              clear A280
              by_cases c29 : t274 = true
              ·subst c29
               have H1 : (bitemporalref02_start.l4 k3 a0 l1 x5_3 x9_2 (wrap64 (x10_3 + 1))) = some r := by rw [if_pos rfl] at H; exact H
               clear H
               have H := H1
               clear H1
               have H' := qq0.mk H
               clear H
               have p273 : 0 ≤ (x9_2 : Int) := of_decide_eq_true (by first | (with_reducible assumption) | assumption)
               have q273 : x9_2 < (l1.length : Int) := of_decide_eq_true (by first | (with_reducible assumption) | assumption)
               obtain ⟨ad273, A273_2, c273_2, e273, hx273_0, hx273_1, hx273_2, hl273_2, hi273_2⟩ := at_T51 HR1.out x9_2 p273 q273
               cases e273
               replace hx273_0 := (HB.out.cell (World.block_lt_of_cell? w _ hx273_0)).trans hx273_0
               replace hx273_1 := (HB.out.cell (World.block_lt_of_cell? w _ hx273_1)).trans hx273_1
               replace hx273_2 := (HB.out.cell (World.block_lt_of_cell? w _ hx273_2)).trans hx273_2
               have HR273_2 := qq0.mk hi273_2
               have HC273_2 := qq0.mk hl273_2
               clear hi273_2 hl273_2
               replace p273 := eq_true p273
               replace q273 := eq_true q273
               go_wp2_with (first | ((with_reducible refine gate_callee (f := 45) rfl ?_); refine goesL_ (some 63) rfl rfl Try.func45 (by kernel_rfl) rfl #[.slice A273_2 ((qz3 l1 x9_2).f2).length c273_2, .int .i64 x10_3] rfl (by (try simp only [List.map_toArray, List.map_cons, List.map_nil]); first | done | rfl | (simp only [List.length_drop, List.length_take]; rfl)) ?_; (with_reducible refine (bitemporalref02_in.calls k3 _ _ ((qz3 l1 x9_2).f2) x10_3 true _ ?side1 ?side2 A28.out).mono ?_); (case side1 => repeat (first | exact (Kd.C_below HR273_2.out HB.out) | (with_reducible refine Kd.C_alloc ?_ _) | (with_reducible refine Kd.C_drewN ?_ _) | (with_reducible refine Kd.C_drew ?_))); (case side2 => exact HC273_2.out); rintro e w' ⟨rfl, ⟨nd, rfl⟩⟩; refine ⟨_, rfl, ?_⟩))
               go_roundg k3
               case measure => have := HK1.out; have := HK2.out; have := HK3.out; omega
               case rel => exact ⟨(x5_3), (wrap64 (x10_3 + 1)), (by first | rfl | (simp; done) | (simp [*]; done)), H', ⟨by have := HK1.out; have := HK2.out; have := HK3.out; omega⟩, ⟨by (with_reducible repeat (first | apply Kd.R_alloc | apply Kd.R_drewN | apply Kd.R_drew)); exact HO_5.out⟩, ⟨by repeat (first | (with_reducible first | exact HB.out | apply qq3 | apply qq1 | apply qq2) | exact HB.out)⟩⟩
              ·replace c29 := Bool.eq_false_iff.mpr c29
               subst c29
               have H1 : (if 0 ≤ (wrap64 ((wrap64 (13 * (wrap64 ((wrap64 (a0 * ((qz3 l1 x9_2).f0))) + ((qz3 l1 x9_2).f1))))) + x10_3)) then (if (wrap64 ((wrap64 (13 * (wrap64 ((wrap64 (a0 * ((qz3 l1 x9_2).f0))) + ((qz3 l1 x9_2).f1))))) + x10_3)) < (x5_3.length : Int) then ((bitemporalref02_Inverse.f x10_3).bind fun t280 => (if 0 ≤ (wrap64 ((wrap64 (13 * (wrap64 ((wrap64 (a0 * ((qz3 l1 x9_2).f1))) + ((qz3 l1 x9_2).f0))))) + t280)) then (if (wrap64 ((wrap64 (13 * (wrap64 ((wrap64 (a0 * ((qz3 l1 x9_2).f1))) + ((qz3 l1 x9_2).f0))))) + t280)) < (x5_3.length : Int) then (bitemporalref02_start.l4 k3 a0 l1 ((x5_3.set ((wrap64 ((wrap64 (13 * (wrap64 ((wrap64 (a0 * ((qz3 l1 x9_2).f0))) + ((qz3 l1 x9_2).f1))))) + x10_3)) : Int).toNat false).set ((wrap64 ((wrap64 (13 * (wrap64 ((wrap64 (a0 * ((qz3 l1 x9_2).f1))) + ((qz3 l1 x9_2).f0))))) + t280)) : Int).toNat false) x9_2 (wrap64 (x10_3 + 1))) else (none)) else (none))) else (none)) else (none)) = some r := by rw [if_neg (show ¬ (false = true) by decide)] at H; exact H
               clear H
               have H := H1
               clear H1
               obtain ⟨ji30, hji30⟩ : ∃ j_ : Int, (wrap64 ((wrap64 (13 * (wrap64 ((wrap64 (a0 * ((qz3 l1 x9_2).f0))) + ((qz3 l1 x9_2).f1))))) + x10_3)) = j_ := ⟨_, rfl⟩
               replace H : (if 0 ≤ (ji30) then (if (ji30) < (x5_3.length : Int) then ((bitemporalref02_Inverse.f x10_3).bind fun t280 => (if 0 ≤ (wrap64 ((wrap64 (13 * (wrap64 ((wrap64 (a0 * ((qz3 l1 x9_2).f1))) + ((qz3 l1 x9_2).f0))))) + t280)) then (if (wrap64 ((wrap64 (13 * (wrap64 ((wrap64 (a0 * ((qz3 l1 x9_2).f1))) + ((qz3 l1 x9_2).f0))))) + t280)) < (x5_3.length : Int) then (bitemporalref02_start.l4 k3 a0 l1 ((x5_3.set ((ji30) : Int).toNat false).set ((wrap64 ((wrap64 (13 * (wrap64 ((wrap64 (a0 * ((qz3 l1 x9_2).f1))) + ((qz3 l1 x9_2).f0))))) + t280)) : Int).toNat false) x9_2 (wrap64 (x10_3 + 1))) else (none)) else (none))) else (none)) else (none)) = some r := by first | (rw [hji30] at H; exact H) | (simp only [hji30] at H ⊢; exact H)
               (try rw [hji30] at A28)
               have hji30w : (IntKind.i64.wrap ((wrap64 (13 * (wrap64 ((wrap64 (a0 * ((qz3 l1 x9_2).f0))) + ((qz3 l1 x9_2).f1))))) + x10_3)) = ji30 := (i64_w _).trans hji30
               by_cases c31 : 0 ≤ (ji30)
               ·rw [if_pos c31] at H
                have c31b0 : decide (0 ≤ (ji30)) = true := decide_eq_true c31
                clear c31
                by_cases c32 : (ji30) < (x5_3.length : Int)
                ·rw [if_pos c32] at H
                 have c32b0 : decide ((ji30) < (x5_3.length : Int)) = true := decide_eq_true c32
                 clear c32
                 obtain ⟨y277, hy277⟩ : ∃ y_ : List Bool, y_ = (x5_3.set ((ji30) : Int).toNat false) := ⟨_, rfl⟩
                 replace H : ((bitemporalref02_Inverse.f x10_3).bind fun t280 => (if 0 ≤ (wrap64 ((wrap64 (13 * (wrap64 ((wrap64 (a0 * ((qz3 l1 x9_2).f1))) + ((qz3 l1 x9_2).f0))))) + t280)) then (if (wrap64 ((wrap64 (13 * (wrap64 ((wrap64 (a0 * ((qz3 l1 x9_2).f1))) + ((qz3 l1 x9_2).f0))))) + t280)) < (x5_3.length : Int) then (bitemporalref02_start.l4 k3 a0 l1 (y277.set ((wrap64 ((wrap64 (13 * (wrap64 ((wrap64 (a0 * ((qz3 l1 x9_2).f1))) + ((qz3 l1 x9_2).f0))))) + t280)) : Int).toNat false) x9_2 (wrap64 (x10_3 + 1))) else (none)) else (none))) = some r := by first | (rw [hy277]; with_reducible exact H) | (have H2_ := (Option.bind_some _ _).symm.trans H; rw [hy277]; with_reducible exact H2_) | (have H2_ := (Option.bind_some _ _).symm.trans H; with_reducible exact H2_) | with_reducible exact H | (rw [hy277]; exact H) | exact H
                 have Ny277 := qq0.mk hy277
                 clear hy277
                 replace H := Option.bind_eq_some_iff.mp H
                 obtain ⟨t280, A340, H⟩ := H
                 replace H : (if 0 ≤ (wrap64 ((wrap64 (13 * (wrap64 ((wrap64 (a0 * ((qz3 l1 x9_2).f1))) + ((qz3 l1 x9_2).f0))))) + t280)) then (if (wrap64 ((wrap64 (13 * (wrap64 ((wrap64 (a0 * ((qz3 l1 x9_2).f1))) + ((qz3 l1 x9_2).f0))))) + t280)) < (x5_3.length : Int) then (bitemporalref02_start.l4 k3 a0 l1 (y277.set ((wrap64 ((wrap64 (13 * (wrap64 ((wrap64 (a0 * ((qz3 l1 x9_2).f1))) + ((qz3 l1 x9_2).f0))))) + t280)) : Int).toNat false) x9_2 (wrap64 (x10_3 + 1))) else (none)) else (none)) = some r := H
                 have A34 := qq0.mk A340
                 clear A340
                 obtain ⟨ji35, hji35⟩ : ∃ j_ : Int, (wrap64 ((wrap64 (13 * (wrap64 ((wrap64 (a0 * ((qz3 l1 x9_2).f1))) + ((qz3 l1 x9_2).f0))))) + t280)) = j_ := ⟨_, rfl⟩
                 replace H : (if 0 ≤ (ji35) then (if (ji35) < (x5_3.length : Int) then (bitemporalref02_start.l4 k3 a0 l1 (y277.set ((ji35) : Int).toNat false) x9_2 (wrap64 (x10_3 + 1))) else (none)) else (none)) = some r := by first | (rw [hji35] at H; exact H) | (simp only [hji35] at H ⊢; exact H)
                 (try rw [hji35] at A28)
                 (try rw [hji35] at A34)
                 have hji35w : (IntKind.i64.wrap ((wrap64 (13 * (wrap64 ((wrap64 (a0 * ((qz3 l1 x9_2).f1))) + ((qz3 l1 x9_2).f0))))) + t280)) = ji35 := (i64_w _).trans hji35
                 by_cases c36 : 0 ≤ (ji35)
                 ·rw [if_pos c36] at H
                  have c36b0 : decide (0 ≤ (ji35)) = true := decide_eq_true c36
                  clear c36
                  by_cases c37 : (ji35) < (x5_3.length : Int)
                  ·rw [if_pos c37] at H
                   have c37b0 : decide ((ji35) < (x5_3.length : Int)) = true := decide_eq_true c37
                   clear c37
                   obtain ⟨y281, hy281⟩ : ∃ y_ : List Bool, y_ = (y277.set ((ji35) : Int).toNat false) := ⟨_, rfl⟩
                   replace H : (bitemporalref02_start.l4 k3 a0 l1 y281 x9_2 (wrap64 (x10_3 + 1))) = some r := by first | (rw [hy281]; with_reducible exact H) | (have H2_ := (Option.bind_some _ _).symm.trans H; rw [hy281]; with_reducible exact H2_) | (have H2_ := (Option.bind_some _ _).symm.trans H; with_reducible exact H2_) | with_reducible exact H | (rw [hy281]; exact H) | exact H
                   have Ny281 := qq0.mk hy281
                   clear hy281
                   have H' := qq0.mk H
                   clear H
                   have p273 : 0 ≤ (x9_2 : Int) := of_decide_eq_true (by first | (with_reducible assumption) | assumption)
                   have q273 : x9_2 < (l1.length : Int) := of_decide_eq_true (by first | (with_reducible assumption) | assumption)
                   obtain ⟨ad273, A273_2, c273_2, e273, hx273_0, hx273_1, hx273_2, hl273_2, hi273_2⟩ := at_T51 HR1.out x9_2 p273 q273
                   cases e273
                   replace hx273_0 := (HB.out.cell (World.block_lt_of_cell? w _ hx273_0)).trans hx273_0
                   replace hx273_1 := (HB.out.cell (World.block_lt_of_cell? w _ hx273_1)).trans hx273_1
                   replace hx273_2 := (HB.out.cell (World.block_lt_of_cell? w _ hx273_2)).trans hx273_2
                   have HR273_2 := qq0.mk hi273_2
                   have HC273_2 := qq0.mk hl273_2
                   clear hi273_2 hl273_2
                   replace p273 := eq_true p273
                   replace q273 := eq_true q273
                   try go_wp2_with (first | ((with_reducible refine gate_callee (f := 45) rfl ?_); refine goesL_ (some 63) rfl rfl Try.func45 (by kernel_rfl) rfl #[.slice A273_2 ((qz3 l1 x9_2).f2).length c273_2, .int .i64 x10_3] rfl (by (try simp only [List.map_toArray, List.map_cons, List.map_nil]); first | done | rfl | (simp only [List.length_drop, List.length_take]; rfl)) ?_; (with_reducible refine (bitemporalref02_in.calls k3 _ _ ((qz3 l1 x9_2).f2) x10_3 false _ ?side1 ?side2 A28.out).mono ?_); (case side1 => repeat (first | exact (Kd.C_below HR273_2.out HB.out) | (with_reducible refine Kd.C_alloc ?_ _) | (with_reducible refine Kd.C_drewN ?_ _) | (with_reducible refine Kd.C_drew ?_))); (case side2 => exact HC273_2.out); rintro e w' ⟨rfl, ⟨nd, rfl⟩⟩; refine ⟨_, rfl, ?_⟩; (try (rw [drewN_self wr]; generalize hq_ : World.drewN wr _ = wr; have n0_ : qq0 (Kd.R Kd.bool 4 wr w.heap.size (fun _ => True) v269 x5_3) := ⟨by rw [← hq_]; exact (by (with_reducible repeat (first | apply Kd.R_alloc | apply Kd.R_drewN | apply Kd.R_drew)); exact HO_5.out)⟩; have n1_ : qq0 (Below w.heap.size w wr) := ⟨by rw [← hq_]; exact (by repeat (first | (with_reducible first | exact HB.out | apply qq3 | apply qq1 | apply qq2) | exact HB.out))⟩; clear HO_5 HB hq_; have HO_5 := n0_; have HB := n1_; clear n0_ n1_))))
                   have n0_ := qq0.mk (Kd.R_drew HO_5.out)
                   have n1_ := qq0.mk (qq2 HB.out)
                   clear HO_5
                   clear HB
                   have HO_5 := n0_
                   have HB := n1_
                   clear n0_ n1_
                   have p275 : 0 ≤ (x9_2 : Int) := of_decide_eq_true (by first | (with_reducible assumption) | assumption)
                   have q275 : x9_2 < (l1.length : Int) := of_decide_eq_true (by first | (with_reducible assumption) | assumption)
                   obtain ⟨ad275, A275_2, c275_2, e275, hx275_0, hx275_1, hx275_2, hl275_2, hi275_2⟩ := at_T51 HR1.out x9_2 p275 q275
                   have hw275_2 := hx275_2
                   have hw275_1 := hx275_1
                   have hw275_0 := hx275_0
                   obtain rfl : ad273 = ad275 := (by injection e275)
                   replace hx275_0 := (HB.out.cell (World.block_lt_of_cell? w _ hx275_0)).trans hx275_0
                   replace hx275_1 := (HB.out.cell (World.block_lt_of_cell? w _ hx275_1)).trans hx275_1
                   replace hx275_2 := (HB.out.cell (World.block_lt_of_cell? w _ hx275_2)).trans hx275_2
                   have HR275_2 := qq0.mk hi275_2
                   have HC275_2 := qq0.mk hl275_2
                   clear hi275_2 hl275_2
                   replace p275 := eq_true p275
                   replace q275 := eq_true q275
                   have p276 : 0 ≤ (x9_2 : Int) := of_decide_eq_true (by first | (with_reducible assumption) | assumption)
                   have q276 : x9_2 < (l1.length : Int) := of_decide_eq_true (by first | (with_reducible assumption) | assumption)
                   obtain ⟨ad276, A276_2, c276_2, e276, hx276_0, hx276_1, hx276_2, hl276_2, hi276_2⟩ := at_T51 HR1.out x9_2 p276 q276
                   have hw276_2 := hx276_2
                   have hw276_1 := hx276_1
                   have hw276_0 := hx276_0
                   obtain rfl : ad273 = ad276 := (by injection e276)
                   replace hx276_0 := (HB.out.cell (World.block_lt_of_cell? w _ hx276_0)).trans hx276_0
                   replace hx276_1 := (HB.out.cell (World.block_lt_of_cell? w _ hx276_1)).trans hx276_1
                   replace hx276_2 := (HB.out.cell (World.block_lt_of_cell? w _ hx276_2)).trans hx276_2
                   have HR276_2 := qq0.mk hi276_2
                   have HC276_2 := qq0.mk hl276_2
                   clear hi276_2 hl276_2
                   replace p276 := eq_true p276
                   replace q276 := eq_true q276
                   have ea_ := Option.some.inj (hx275_2.symm.trans hx276_2)
                   injection ea_ with ea_ en_ ec_
                   subst ea_
                   subst ec_
                   clear en_
                   have p33 : 0 ≤ ((ji30) : Int) := of_decide_eq_true (by first | (with_reducible assumption) | assumption)
                   have q33 : ((ji30) : Int) < ((x5_3.length : Int) : Int) := of_decide_eq_true (by first | (with_reducible assumption) | assumption)
                   obtain ⟨go33, co33, eo33, gb33, gl33, cl33, HG33⟩ := Kd.R_form HO_5.out (by omega)
                   (first | cases eo33 | (injection eo33 with ea_ en_ ec_; (first | subst ea_ | (injection ea_ with ea_; subst ea_)); subst ec_; clear en_))
                   have GB33 := qq0.mk gb33
                   have GG33 := qq0.mk HG33
                   clear gb33 gl33 HG33
                   obtain ⟨hx33_0, hf33_0⟩ := Kd.R_celln false HO_5.out ((ji30) : Int) p33 q33
                   replace p33 := eq_true p33
                   replace q33 := eq_true q33
                   have HP40 := Kd.R_putn HO_5.out ((ji30) : Int) false
                   rw [← Ny277.out] at HP40
                   have HQ40 := qq0.mk HP40
                   clear HP40
                   refine start_ (n := 19) (S := fun w' => w'.cell? (ad273.add ((x9_2).toNat * 3)) = some (.int .i64 ((qz3 l1 x9_2).f0)) ∧ w'.cell? ⟨(ad273.add ((x9_2).toNat * 3)).block, (ad273.add ((x9_2).toNat * 3)).off + 1, none⟩ = some (.int .i64 ((qz3 l1 x9_2).f1)) ∧ w'.cell? ⟨(ad273.add ((x9_2).toNat * 3)).block, (ad273.add ((x9_2).toNat * 3)).off + 2, none⟩ = some (.slice A275_2 ((qz3 l1 x9_2).f2).length c275_2) ∧ w'.cell? (ad273.add ((x9_2).toNat * 3)) = some (.int .i64 ((qz3 l1 x9_2).f0)) ∧ w'.cell? ⟨(ad273.add ((x9_2).toNat * 3)).block, (ad273.add ((x9_2).toNat * 3)).off + 1, none⟩ = some (.int .i64 ((qz3 l1 x9_2).f1)) ∧ w'.cell? ⟨(ad273.add ((x9_2).toNat * 3)).block, (ad273.add ((x9_2).toNat * 3)).off + 2, none⟩ = some (.slice A275_2 ((qz3 l1 x9_2).f2).length c275_2)) (ds := [18]) #[false, false, false, false, false, false, false, false, false, false, false, false, false, false, false, false, false, false, false] (by kernel_rfl) rfl rfl ⟨((HB.out.cell (World.block_lt_of_cell? w _ hw275_0)).trans hw275_0), ((HB.out.cell (World.block_lt_of_cell? w _ hw275_1)).trans hw275_1), ((HB.out.cell (World.block_lt_of_cell? w _ hw275_2)).trans hw275_2), ((HB.out.cell (World.block_lt_of_cell? w _ hw276_0)).trans hw276_0), ((HB.out.cell (World.block_lt_of_cell? w _ hw276_1)).trans hw276_1), ((HB.out.cell (World.block_lt_of_cell? w _ hw276_2)).trans hw276_2)⟩ (fun hHeld => ?_); refine with_tabW bitemporalref02_start.tab19 bitemporalref02_start.bits19 (fun HT_ HW_ => ?_)
                   generalize wr.drew = w39 at HO_5 HB GG33 HQ40 HR275_2 HR276_2 hf33_0 hx275_0 hx275_1 hx275_2 hx276_0 hx276_1 hx276_2 hx33_0 hHeld ⊢
                   refine pure_ (i := 0) (N := some 65) (v := ?_) (a' := ?_) #[true, false, false, false, false, false, false, false, false, false, false, false, false, false, false, false, false, false, false] rfl rfl (qz9 HT_.out (by kernel_rfl)) (fun _ _ _ h => h) (Or.inl ⟨by rfl, ?_⟩) ?_ ?_
                   rotate_left
                   ·intro w'
                    go_simp
                    with_reducible rfl
                   rotate_left
                   ·simp only [Act.put, List.setIfInBounds_toArray, List.set_cons_zero, List.set_cons_succ, i64_w, i32_w]
                    rfl
                   refine pure_ (i := 1) (N := some 66) (v := ?_) (a' := ?_) #[true, true, false, false, false, false, false, false, false, false, false, false, false, false, false, false, false, false, false] rfl rfl (qz9 HT_.out (by kernel_rfl)) (fun _ _ _ h => h) (Or.inl ⟨by rfl, ?_⟩) ?_ ?_
                   rotate_left
                   ·intro w'
                    go_simp
                    with_reducible rfl
                   rotate_left
                   ·simp only [Act.put, List.setIfInBounds_toArray, List.set_cons_zero, List.set_cons_succ, i64_w, i32_w]
                    rfl
                   refine pure_ (i := 2) (N := some 67) (v := ?_) (a' := ?_) #[true, true, true, false, false, false, false, false, false, false, false, false, false, false, false, false, false, false, false] rfl rfl (qz9 HT_.out (by kernel_rfl)) (fun _ _ _ h => h) (Or.inl ⟨by rfl, ?_⟩) ?_ ?_
                   rotate_left
                   ·intro w'
                    go_simp
                    with_reducible rfl
                   rotate_left
                   ·simp only [Act.put, List.setIfInBounds_toArray, List.set_cons_zero, List.set_cons_succ, i64_w, i32_w]
                    rfl
                   refine pure_ (i := 3) (N := some 68) (v := ?_) (a' := ?_) #[true, true, true, true, false, false, false, false, false, false, false, false, false, false, false, false, false, false, false] rfl rfl (qz9 HT_.out (by kernel_rfl)) (fun _ _ _ h => h) (Or.inl ⟨by rfl, ?_⟩) ?_ ?_
                   rotate_left
                   ·intro w'
                    go_simp
                    with_reducible rfl
                   rotate_left
                   ·simp only [Act.put, List.setIfInBounds_toArray, List.set_cons_zero, List.set_cons_succ, i64_w, i32_w]
                    rfl
                   refine pure_ (i := 4) (N := some 69) (v := ?_) (a' := ?_) #[true, true, true, true, true, false, false, false, false, false, false, false, false, false, false, false, false, false, false] rfl rfl (qz9 HT_.out (by kernel_rfl)) (fun _ _ _ h => h) (Or.inl ⟨by rfl, ?_⟩) ?_ ?_
                   rotate_left
                   ·intro w'
                    go_simp
                    with_reducible rfl
                   rotate_left
                   ·simp only [Act.put, List.setIfInBounds_toArray, List.set_cons_zero, List.set_cons_succ, i64_w, i32_w]
                    rfl
                   refine pure_ (i := 5) (N := some 70) (v := ?_) (a' := ?_) #[true, true, true, true, true, true, false, false, false, false, false, false, false, false, false, false, false, false, false] rfl rfl (qz9 HT_.out (by kernel_rfl)) (fun _ _ _ h => h) (Or.inl ⟨by rfl, ?_⟩) ?_ ?_
                   rotate_left
                   ·intro w'
                    go_simp
                    with_reducible rfl
                   rotate_left
                   ·simp only [Act.put, List.setIfInBounds_toArray, List.set_cons_zero, List.set_cons_succ, i64_w, i32_w]
                    rfl
                   refine pure_ (i := 8) (N := some 73) (v := ?_) (a' := ?_) #[true, true, true, true, true, true, false, false, true, false, false, false, false, false, false, false, false, false, false] rfl rfl (qz9 HT_.out (by kernel_rfl)) (fun _ _ _ h => h) (Or.inl ⟨by rfl, ?_⟩) ?_ ?_
                   rotate_left
                   ·intro w'
                    go_simp
                    with_reducible rfl
                   rotate_left
                   ·simp only [Act.put, List.setIfInBounds_toArray, List.set_cons_zero, List.set_cons_succ, i64_w, i32_w]
                    rfl
                   refine pure_ (i := 9) (N := some 74) (v := ?_) (a' := ?_) #[true, true, true, true, true, true, false, false, true, true, false, false, false, false, false, false, false, false, false] rfl rfl (qz9 HT_.out (by kernel_rfl)) (fun _ _ _ h => h) (Or.inl ⟨by rfl, ?_⟩) ?_ ?_
                   rotate_left
                   ·intro w'
                    go_simp
                    with_reducible rfl
                   rotate_left
                   ·simp only [Act.put, List.setIfInBounds_toArray, List.set_cons_zero, List.set_cons_succ, i64_w, i32_w]
                    rfl
                   refine pure_ (i := 10) (N := some 75) (v := ?_) (a' := ?_) #[true, true, true, true, true, true, false, false, true, true, true, false, false, false, false, false, false, false, false] rfl rfl (qz9 HT_.out (by kernel_rfl)) (fun _ _ _ h => h) (Or.inl ⟨by rfl, ?_⟩) ?_ ?_
                   rotate_left
                   ·intro w'
                    go_simp
                    with_reducible rfl
                   rotate_left
                   ·simp only [Act.put, List.setIfInBounds_toArray, List.set_cons_zero, List.set_cons_succ, i64_w, i32_w]
                    rfl
                   refine pure_ (i := 11) (N := some 76) (v := ?_) (a' := ?_) #[true, true, true, true, true, true, false, false, true, true, true, true, false, false, false, false, false, false, false] rfl rfl (qz9 HT_.out (by kernel_rfl)) (fun _ _ _ h => h) (Or.inl ⟨by rfl, ?_⟩) ?_ ?_
                   rotate_left
                   ·intro w'
                    go_simp
                    with_reducible rfl
                   rotate_left
                   ·simp only [Act.put, List.setIfInBounds_toArray, List.set_cons_zero, List.set_cons_succ, i64_w, i32_w]
                    rfl
                   refine pure_ (i := 15) (N := some 80) (v := ?_) (a' := ?_) #[true, true, true, true, true, true, false, false, true, true, true, true, false, false, false, true, false, false, false] rfl rfl (qz9 HT_.out (by kernel_rfl)) (fun _ _ _ h => h) (Or.inl ⟨by rfl, ?_⟩) ?_ ?_
                   rotate_left
                   ·intro w'
                    go_simp
                    with_reducible rfl
                   rotate_left
                   ·simp only [Act.put, List.setIfInBounds_toArray, List.set_cons_zero, List.set_cons_succ, i64_w, i32_w]
                    rfl
                   refine take_ (i := 6) (N := some 71) (v := ?_) (a' := ?_) #[true, true, true, true, true, true, true, false, true, true, true, true, false, false, false, true, false, false, false] rfl rfl (take_ofW HT_.out HW_.out (by kernel_rfl)) (fun _ _ _ h => h) (Or.inl ⟨by rfl, ?_⟩) hHeld ?_ ?_
                   rotate_left
                   ·rintro w' ⟨s0, s1, s2, s3, s4, s5⟩
                    go_simp
                    with_reducible rfl
                   rotate_left
                   ·simp only [Act.put, List.setIfInBounds_toArray, List.set_cons_zero, List.set_cons_succ, i64_w, i32_w]
                    rfl
                   refine pure_ (i := 7) (N := some 72) (v := ?_) (a' := ?_) #[true, true, true, true, true, true, true, true, true, true, true, true, false, false, false, true, false, false, false] rfl rfl (qz9 HT_.out (by kernel_rfl)) (fun _ _ _ h => h) (Or.inl ⟨by rfl, ?_⟩) ?_ ?_
                   rotate_left
                   ·intro w'
                    go_simp
                    with_reducible rfl
                   rotate_left
                   ·simp only [Act.put, List.setIfInBounds_toArray, List.set_cons_zero, List.set_cons_succ, i64_w, i32_w]
                    rfl
                   refine take_ (i := 12) (N := some 77) (v := ?_) (a' := ?_) #[true, true, true, true, true, true, true, true, true, true, true, true, true, false, false, true, false, false, false] rfl rfl (take_ofW HT_.out HW_.out (by kernel_rfl)) (fun _ _ _ h => h) (Or.inl ⟨by rfl, ?_⟩) hHeld ?_ ?_
                   rotate_left
                   ·rintro w' ⟨s0, s1, s2, s3, s4, s5⟩
                    go_simp
                    with_reducible rfl
                   rotate_left
                   ·simp only [Act.put, List.setIfInBounds_toArray, List.set_cons_zero, List.set_cons_succ, i64_w, i32_w]
                    rfl
                   refine pure_ (i := 13) (N := some 78) (v := ?_) (a' := ?_) #[true, true, true, true, true, true, true, true, true, true, true, true, true, true, false, true, false, false, false] rfl rfl (qz9 HT_.out (by kernel_rfl)) (fun _ _ _ h => h) (Or.inl ⟨by rfl, ?_⟩) ?_ ?_
                   rotate_left
                   ·intro w'
                    go_simp
                    with_reducible rfl
                   rotate_left
                   ·simp only [Act.put, List.setIfInBounds_toArray, List.set_cons_zero, List.set_cons_succ, i64_w, i32_w]
                    rfl
                   refine pure_ (i := 14) (N := some 79) (v := ?_) (a' := ?_) #[true, true, true, true, true, true, true, true, true, true, true, true, true, true, true, true, false, false, false] rfl rfl (qz9 HT_.out (by kernel_rfl)) (fun _ _ _ h => h) (Or.inl ⟨by rfl, ?_⟩) ?_ ?_
                   rotate_left
                   ·intro w'
                    go_simp
                    with_reducible rfl
                   rotate_left
                   ·simp only [Act.put, List.setIfInBounds_toArray, List.set_cons_zero, List.set_cons_succ, i64_w, i32_w]
                    rfl
                   refine pure_ (i := 16) (N := some 81) (v := ?_) (a' := ?_) #[true, true, true, true, true, true, true, true, true, true, true, true, true, true, true, true, true, false, false] rfl rfl (qz9 HT_.out (by kernel_rfl)) (fun _ _ _ h => h) (Or.inl ⟨by rfl, ?_⟩) ?_ ?_
                   rotate_left
                   ·intro w'
                    go_simp
                    with_reducible rfl
                   rotate_left
                   ·simp only [Act.put, List.setIfInBounds_toArray, List.set_cons_zero, List.set_cons_succ, i64_w, i32_w]
                    rfl
                   refine pure_ (i := 17) (N := some 82) (v := ?_) (a' := ?_) #[true, true, true, true, true, true, true, true, true, true, true, true, true, true, true, true, true, true, false] rfl rfl (qz9 HT_.out (by kernel_rfl)) (fun _ _ _ h => h) (Or.inl ⟨by rfl, ?_⟩) ?_ ?_
                   rotate_left
                   ·intro w'
                    go_simp
                    with_reducible rfl
                   rotate_left
                   ·simp only [Act.put, List.setIfInBounds_toArray, List.set_cons_zero, List.set_cons_succ, i64_w, i32_w]
                    rfl
                   refine last_ (i := 18) (N := none) #[true, true, true, true, true, true, true, true, true, true, true, true, true, true, true, true, true, true, true] rfl rfl (one_of HT_.out (by kernel_rfl)) (by decide) (fun K hK => ?_)
                   refine skip_ (w1 := ?_) (by rfl) rfl ?_ ?_
                   rotate_left
                   ·go_simp
                    rfl
                   refine hK.out _ _ ?_
                   clear hK K
                   refine done_ (done_of HT_.out (by kernel_rfl)) ?_
                   try go_wp2
                   have n0_ : qq0 (Kd.R Kd.bool 4 (w39.setCell ⟨go33, ((ji30) : Int).toNat, none⟩ (.bool false)) w.heap.size (fun _ => True) (.slice (some ⟨go33, 0, none⟩) x5_3.length co33) y277) := ⟨by (with_reducible repeat (first | apply Kd.R_alloc | apply Kd.R_drewN | apply Kd.R_drew)); exact HQ40.out⟩
                   have n1_ : qq0 (Below w.heap.size w (w39.setCell ⟨go33, ((ji30) : Int).toNat, none⟩ (.bool false))) := ⟨by repeat (first | (with_reducible first | exact HB.out | apply qq3 | apply qq1 | apply qq2 | refine qq4 ?_ GB33.out) | exact HB.out)⟩
                   (try clear HO_5)
                   (try clear HB)
                   generalize (w39.setCell ⟨go33, ((ji30) : Int).toNat, none⟩ (.bool false)) = w41 at n0_ n1_ ⊢
                   have HO_5 := n0_
                   have HB := n1_
                   clear n0_ n1_
                   have n0_ := qq0.mk (Kd.R_drew HO_5.out)
                   have n1_ := qq0.mk (qq2 HB.out)
                   clear HO_5
                   clear HB
                   have HO_5 := n0_
                   have HB := n1_
                   clear n0_ n1_
                   have p278 : 0 ≤ (x9_2 : Int) := of_decide_eq_true (by first | (with_reducible assumption) | assumption)
                   have q278 : x9_2 < (l1.length : Int) := of_decide_eq_true (by first | (with_reducible assumption) | assumption)
                   obtain ⟨ad278, A278_2, c278_2, e278, hx278_0, hx278_1, hx278_2, hl278_2, hi278_2⟩ := at_T51 HR1.out x9_2 p278 q278
                   have hw278_2 := hx278_2
                   have hw278_1 := hx278_1
                   have hw278_0 := hx278_0
                   obtain rfl : ad273 = ad278 := (by injection e278)
                   replace hx278_0 := (HB.out.cell (World.block_lt_of_cell? w _ hx278_0)).trans hx278_0
                   replace hx278_1 := (HB.out.cell (World.block_lt_of_cell? w _ hx278_1)).trans hx278_1
                   replace hx278_2 := (HB.out.cell (World.block_lt_of_cell? w _ hx278_2)).trans hx278_2
                   have HR278_2 := qq0.mk hi278_2
                   have HC278_2 := qq0.mk hl278_2
                   clear hi278_2 hl278_2
                   replace p278 := eq_true p278
                   replace q278 := eq_true q278
                   have p279 : 0 ≤ (x9_2 : Int) := of_decide_eq_true (by first | (with_reducible assumption) | assumption)
                   have q279 : x9_2 < (l1.length : Int) := of_decide_eq_true (by first | (with_reducible assumption) | assumption)
                   obtain ⟨ad279, A279_2, c279_2, e279, hx279_0, hx279_1, hx279_2, hl279_2, hi279_2⟩ := at_T51 HR1.out x9_2 p279 q279
                   have hw279_2 := hx279_2
                   have hw279_1 := hx279_1
                   have hw279_0 := hx279_0
                   obtain rfl : ad273 = ad279 := (by injection e279)
                   replace hx279_0 := (HB.out.cell (World.block_lt_of_cell? w _ hx279_0)).trans hx279_0
                   replace hx279_1 := (HB.out.cell (World.block_lt_of_cell? w _ hx279_1)).trans hx279_1
                   replace hx279_2 := (HB.out.cell (World.block_lt_of_cell? w _ hx279_2)).trans hx279_2
                   have HR279_2 := qq0.mk hi279_2
                   have HC279_2 := qq0.mk hl279_2
                   clear hi279_2 hl279_2
                   replace p279 := eq_true p279
                   replace q279 := eq_true q279
                   have ea_ := Option.some.inj (hx278_2.symm.trans hx279_2)
                   injection ea_ with ea_ en_ ec_
                   subst ea_
                   subst ec_
                   clear en_
                   refine start_ (n := 20) (S := fun w' => w'.cell? (ad273.add ((x9_2).toNat * 3)) = some (.int .i64 ((qz3 l1 x9_2).f0)) ∧ w'.cell? ⟨(ad273.add ((x9_2).toNat * 3)).block, (ad273.add ((x9_2).toNat * 3)).off + 1, none⟩ = some (.int .i64 ((qz3 l1 x9_2).f1)) ∧ w'.cell? ⟨(ad273.add ((x9_2).toNat * 3)).block, (ad273.add ((x9_2).toNat * 3)).off + 2, none⟩ = some (.slice A278_2 ((qz3 l1 x9_2).f2).length c278_2) ∧ w'.cell? (ad273.add ((x9_2).toNat * 3)) = some (.int .i64 ((qz3 l1 x9_2).f0)) ∧ w'.cell? ⟨(ad273.add ((x9_2).toNat * 3)).block, (ad273.add ((x9_2).toNat * 3)).off + 1, none⟩ = some (.int .i64 ((qz3 l1 x9_2).f1)) ∧ w'.cell? ⟨(ad273.add ((x9_2).toNat * 3)).block, (ad273.add ((x9_2).toNat * 3)).off + 2, none⟩ = some (.slice A278_2 ((qz3 l1 x9_2).f2).length c278_2)) (ds := [19]) #[false, false, false, false, false, false, false, false, false, false, false, false, false, false, false, false, false, false, false, false] (by kernel_rfl) rfl rfl ⟨((HB.out.cell (World.block_lt_of_cell? w _ hw278_0)).trans hw278_0), ((HB.out.cell (World.block_lt_of_cell? w _ hw278_1)).trans hw278_1), ((HB.out.cell (World.block_lt_of_cell? w _ hw278_2)).trans hw278_2), ((HB.out.cell (World.block_lt_of_cell? w _ hw279_0)).trans hw279_0), ((HB.out.cell (World.block_lt_of_cell? w _ hw279_1)).trans hw279_1), ((HB.out.cell (World.block_lt_of_cell? w _ hw279_2)).trans hw279_2)⟩ (fun hHeld => ?_); refine with_tabW bitemporalref02_start.tab20 bitemporalref02_start.bits20 (fun HT_ HW_ => ?_)
                   generalize w41.drew = w42 at HO_5 HB HQ40 HR278_2 HR279_2 hx278_0 hx278_1 hx278_2 hx279_0 hx279_1 hx279_2 hHeld ⊢
                   refine pure_ (i := 0) (N := some 83) (v := ?_) (a' := ?_) #[true, false, false, false, false, false, false, false, false, false, false, false, false, false, false, false, false, false, false, false] rfl rfl (qz9 HT_.out (by kernel_rfl)) (fun _ _ _ h => h) (Or.inl ⟨by rfl, ?_⟩) ?_ ?_
                   rotate_left
                   ·intro w'
                    go_simp
                    with_reducible rfl
                   rotate_left
                   ·simp only [Act.put, List.setIfInBounds_toArray, List.set_cons_zero, List.set_cons_succ, i64_w, i32_w]
                    rfl
                   refine pure_ (i := 1) (N := some 84) (v := ?_) (a' := ?_) #[true, true, false, false, false, false, false, false, false, false, false, false, false, false, false, false, false, false, false, false] rfl rfl (qz9 HT_.out (by kernel_rfl)) (fun _ _ _ h => h) (Or.inl ⟨by rfl, ?_⟩) ?_ ?_
                   rotate_left
                   ·intro w'
                    go_simp
                    with_reducible rfl
                   rotate_left
                   ·simp only [Act.put, List.setIfInBounds_toArray, List.set_cons_zero, List.set_cons_succ, i64_w, i32_w]
                    rfl
                   refine pure_ (i := 2) (N := some 85) (v := ?_) (a' := ?_) #[true, true, true, false, false, false, false, false, false, false, false, false, false, false, false, false, false, false, false, false] rfl rfl (qz9 HT_.out (by kernel_rfl)) (fun _ _ _ h => h) (Or.inl ⟨by rfl, ?_⟩) ?_ ?_
                   rotate_left
                   ·intro w'
                    go_simp
                    with_reducible rfl
                   rotate_left
                   ·simp only [Act.put, List.setIfInBounds_toArray, List.set_cons_zero, List.set_cons_succ, i64_w, i32_w]
                    rfl
                   refine pure_ (i := 3) (N := some 86) (v := ?_) (a' := ?_) #[true, true, true, true, false, false, false, false, false, false, false, false, false, false, false, false, false, false, false, false] rfl rfl (qz9 HT_.out (by kernel_rfl)) (fun _ _ _ h => h) (Or.inl ⟨by rfl, ?_⟩) ?_ ?_
                   rotate_left
                   ·intro w'
                    go_simp
                    with_reducible rfl
                   rotate_left
                   ·simp only [Act.put, List.setIfInBounds_toArray, List.set_cons_zero, List.set_cons_succ, i64_w, i32_w]
                    rfl
                   refine pure_ (i := 4) (N := some 87) (v := ?_) (a' := ?_) #[true, true, true, true, true, false, false, false, false, false, false, false, false, false, false, false, false, false, false, false] rfl rfl (qz9 HT_.out (by kernel_rfl)) (fun _ _ _ h => h) (Or.inl ⟨by rfl, ?_⟩) ?_ ?_
                   rotate_left
                   ·intro w'
                    go_simp
                    with_reducible rfl
                   rotate_left
                   ·simp only [Act.put, List.setIfInBounds_toArray, List.set_cons_zero, List.set_cons_succ, i64_w, i32_w]
                    rfl
                   refine pure_ (i := 5) (N := some 88) (v := ?_) (a' := ?_) #[true, true, true, true, true, true, false, false, false, false, false, false, false, false, false, false, false, false, false, false] rfl rfl (qz9 HT_.out (by kernel_rfl)) (fun _ _ _ h => h) (Or.inl ⟨by rfl, ?_⟩) ?_ ?_
                   rotate_left
                   ·intro w'
                    go_simp
                    with_reducible rfl
                   rotate_left
                   ·simp only [Act.put, List.setIfInBounds_toArray, List.set_cons_zero, List.set_cons_succ, i64_w, i32_w]
                    rfl
                   refine pure_ (i := 8) (N := some 91) (v := ?_) (a' := ?_) #[true, true, true, true, true, true, false, false, true, false, false, false, false, false, false, false, false, false, false, false] rfl rfl (qz9 HT_.out (by kernel_rfl)) (fun _ _ _ h => h) (Or.inl ⟨by rfl, ?_⟩) ?_ ?_
                   rotate_left
                   ·intro w'
                    go_simp
                    with_reducible rfl
                   rotate_left
                   ·simp only [Act.put, List.setIfInBounds_toArray, List.set_cons_zero, List.set_cons_succ, i64_w, i32_w]
                    rfl
                   refine pure_ (i := 9) (N := some 92) (v := ?_) (a' := ?_) #[true, true, true, true, true, true, false, false, true, true, false, false, false, false, false, false, false, false, false, false] rfl rfl (qz9 HT_.out (by kernel_rfl)) (fun _ _ _ h => h) (Or.inl ⟨by rfl, ?_⟩) ?_ ?_
                   rotate_left
                   ·intro w'
                    go_simp
                    with_reducible rfl
                   rotate_left
                   ·simp only [Act.put, List.setIfInBounds_toArray, List.set_cons_zero, List.set_cons_succ, i64_w, i32_w]
                    rfl
                   refine pure_ (i := 10) (N := some 93) (v := ?_) (a' := ?_) #[true, true, true, true, true, true, false, false, true, true, true, false, false, false, false, false, false, false, false, false] rfl rfl (qz9 HT_.out (by kernel_rfl)) (fun _ _ _ h => h) (Or.inl ⟨by rfl, ?_⟩) ?_ ?_
                   rotate_left
                   ·intro w'
                    go_simp
                    with_reducible rfl
                   rotate_left
                   ·simp only [Act.put, List.setIfInBounds_toArray, List.set_cons_zero, List.set_cons_succ, i64_w, i32_w]
                    rfl
                   refine pure_ (i := 11) (N := some 94) (v := ?_) (a' := ?_) #[true, true, true, true, true, true, false, false, true, true, true, true, false, false, false, false, false, false, false, false] rfl rfl (qz9 HT_.out (by kernel_rfl)) (fun _ _ _ h => h) (Or.inl ⟨by rfl, ?_⟩) ?_ ?_
                   rotate_left
                   ·intro w'
                    go_simp
                    with_reducible rfl
                   rotate_left
                   ·simp only [Act.put, List.setIfInBounds_toArray, List.set_cons_zero, List.set_cons_succ, i64_w, i32_w]
                    rfl
                   refine pure_ (i := 15) (N := some 98) (v := ?_) (a' := ?_) #[true, true, true, true, true, true, false, false, true, true, true, true, false, false, false, true, false, false, false, false] rfl rfl (qz9 HT_.out (by kernel_rfl)) (fun _ _ _ h => h) (Or.inl ⟨by rfl, ?_⟩) ?_ ?_
                   rotate_left
                   ·intro w'
                    go_simp
                    with_reducible rfl
                   rotate_left
                   ·simp only [Act.put, List.setIfInBounds_toArray, List.set_cons_zero, List.set_cons_succ, i64_w, i32_w]
                    rfl
                   refine take_ (i := 6) (N := some 89) (v := ?_) (a' := ?_) #[true, true, true, true, true, true, true, false, true, true, true, true, false, false, false, true, false, false, false, false] rfl rfl (take_ofW HT_.out HW_.out (by kernel_rfl)) (fun _ _ _ h => h) (Or.inl ⟨by rfl, ?_⟩) hHeld ?_ ?_
                   rotate_left
                   ·rintro w' ⟨s0, s1, s2, s3, s4, s5⟩
                    go_simp
                    with_reducible rfl
                   rotate_left
                   ·simp only [Act.put, List.setIfInBounds_toArray, List.set_cons_zero, List.set_cons_succ, i64_w, i32_w]
                    rfl
                   refine pure_ (i := 7) (N := some 90) (v := ?_) (a' := ?_) #[true, true, true, true, true, true, true, true, true, true, true, true, false, false, false, true, false, false, false, false] rfl rfl (qz9 HT_.out (by kernel_rfl)) (fun _ _ _ h => h) (Or.inl ⟨by rfl, ?_⟩) ?_ ?_
                   rotate_left
                   ·intro w'
                    go_simp
                    with_reducible rfl
                   rotate_left
                   ·simp only [Act.put, List.setIfInBounds_toArray, List.set_cons_zero, List.set_cons_succ, i64_w, i32_w]
                    rfl
                   refine take_ (i := 12) (N := some 95) (v := ?_) (a' := ?_) #[true, true, true, true, true, true, true, true, true, true, true, true, true, false, false, true, false, false, false, false] rfl rfl (take_ofW HT_.out HW_.out (by kernel_rfl)) (fun _ _ _ h => h) (Or.inl ⟨by rfl, ?_⟩) hHeld ?_ ?_
                   rotate_left
                   ·rintro w' ⟨s0, s1, s2, s3, s4, s5⟩
                    go_simp
                    with_reducible rfl
                   rotate_left
                   ·simp only [Act.put, List.setIfInBounds_toArray, List.set_cons_zero, List.set_cons_succ, i64_w, i32_w]
                    rfl
                   refine pure_ (i := 13) (N := some 96) (v := ?_) (a' := ?_) #[true, true, true, true, true, true, true, true, true, true, true, true, true, true, false, true, false, false, false, false] rfl rfl (qz9 HT_.out (by kernel_rfl)) (fun _ _ _ h => h) (Or.inl ⟨by rfl, ?_⟩) ?_ ?_
                   rotate_left
                   ·intro w'
                    go_simp
                    with_reducible rfl
                   rotate_left
                   ·simp only [Act.put, List.setIfInBounds_toArray, List.set_cons_zero, List.set_cons_succ, i64_w, i32_w]
                    rfl
                   refine pure_ (i := 14) (N := some 97) (v := ?_) (a' := ?_) #[true, true, true, true, true, true, true, true, true, true, true, true, true, true, true, true, false, false, false, false] rfl rfl (qz9 HT_.out (by kernel_rfl)) (fun _ _ _ h => h) (Or.inl ⟨by rfl, ?_⟩) ?_ ?_
                   rotate_left
                   ·intro w'
                    go_simp
                    with_reducible rfl
                   rotate_left
                   ·simp only [Act.put, List.setIfInBounds_toArray, List.set_cons_zero, List.set_cons_succ, i64_w, i32_w]
                    rfl
                   refine one_ (i := 16) (N := some 99) #[true, true, true, true, true, true, true, true, true, true, true, true, true, true, true, true, true, false, false, false] rfl rfl (one_of HT_.out (by kernel_rfl)) (by decide) (fun K hK => ?_)
                   refine goes_ Try.func20 (by kernel_rfl) rfl #[.int .i64 x10_3] (by rfl) rfl rfl (by (try simp only [List.map_toArray, List.map_cons, List.map_nil]); first | done | rfl | (simp only [List.length_drop, List.length_take]; rfl)) ?_
                   with_reducible refine (bitemporalref02_Inverse.calls x10_3 t280 _ A34.out).mono ?_
                   rintro e w' ⟨rfl, ⟨nd, rfl⟩⟩
                   refine ⟨_, rfl, ?_⟩
                   have p38 : 0 ≤ ((ji35) : Int) := of_decide_eq_true (by first | (with_reducible assumption) | assumption)
                   have q38 : ((ji35) : Int) < ((x5_3.length : Int) : Int) := of_decide_eq_true (by first | (with_reducible assumption) | assumption)
                   obtain ⟨hx38_0, hf38_0⟩ := Kd.R_celln false HO_5.out ((ji35) : Int) p38 q38
                   replace p38 := eq_true p38
                   replace q38 := eq_true q38
                   have HP43 := Kd.R_putn HO_5.out ((ji35) : Int) false
                   rw [← Ny281.out] at HP43
                   have HQ43 := qq0.mk HP43
                   clear HP43
                   refine hK.out _ _ ⟨((HB.out.cell (World.block_lt_of_cell? w _ hw278_0)).trans hw278_0), ((HB.out.cell (World.block_lt_of_cell? w _ hw278_1)).trans hw278_1), ((HB.out.cell (World.block_lt_of_cell? w _ hw278_2)).trans hw278_2), ((HB.out.cell (World.block_lt_of_cell? w _ hw279_0)).trans hw279_0), ((HB.out.cell (World.block_lt_of_cell? w _ hw279_1)).trans hw279_1), ((HB.out.cell (World.block_lt_of_cell? w _ hw279_2)).trans hw279_2)⟩ (fun hHeld => ?_)
                   clear hK K
                   refine norm_ (a' := ?_) ?_ ?_
                   rotate_left
                   ·show Act.put _ (some 99) _ = _
                    simp only [Act.put, List.setIfInBounds_toArray, List.set_cons_zero, List.set_cons_succ, i64_w, i32_w]
                    rfl
                   refine pure_ (i := 17) (N := some 100) (v := ?_) (a' := ?_) #[true, true, true, true, true, true, true, true, true, true, true, true, true, true, true, true, true, true, false, false] rfl rfl (qz9 HT_.out (by kernel_rfl)) (fun _ _ _ h => h) (Or.inl ⟨by rfl, ?_⟩) ?_ ?_
                   rotate_left
                   ·intro w'
                    go_simp
                    with_reducible rfl
                   rotate_left
                   ·simp only [Act.put, List.setIfInBounds_toArray, List.set_cons_zero, List.set_cons_succ, i64_w, i32_w]
                    rfl
                   refine pure_ (i := 18) (N := some 101) (v := ?_) (a' := ?_) #[true, true, true, true, true, true, true, true, true, true, true, true, true, true, true, true, true, true, true, false] rfl rfl (qz9 HT_.out (by kernel_rfl)) (fun _ _ _ h => h) (Or.inl ⟨by rfl, ?_⟩) ?_ ?_
                   rotate_left
                   ·intro w'
                    go_simp
                    with_reducible rfl
                   rotate_left
                   ·simp only [Act.put, List.setIfInBounds_toArray, List.set_cons_zero, List.set_cons_succ, i64_w, i32_w]
                    rfl
                   refine last_ (i := 19) (N := none) #[true, true, true, true, true, true, true, true, true, true, true, true, true, true, true, true, true, true, true, true] rfl rfl (one_of HT_.out (by kernel_rfl)) (by decide) (fun K hK => ?_)
                   refine skip_ (w1 := ?_) (by rfl) rfl ?_ ?_
                   rotate_left
                   ·go_simp
                    rfl
                   refine hK.out _ _ ?_
                   clear hK K
                   refine done_ (done_of HT_.out (by kernel_rfl)) ?_
                   try go_wp2
                   go_roundg k3
                   case measure => have := HK1.out; have := HK2.out; have := HK3.out; omega
                   case rel => exact ⟨(y281), (wrap64 (x10_3 + 1)), (by first | rfl | (simp; done) | (simp [*]; done)), H', ⟨by have := HK1.out; have := HK2.out; have := HK3.out; omega⟩, ⟨by (with_reducible repeat (first | apply Kd.R_alloc | apply Kd.R_drewN | apply Kd.R_drew)); exact HQ43.out⟩, ⟨by repeat (first | (with_reducible first | exact HB.out | apply qq3 | apply qq1 | apply qq2 | refine qq4 ?_ GB33.out) | exact HB.out)⟩⟩
                  ·rw [if_neg c37] at H
                   exact absurd H (by simp)
                 ·rw [if_neg c36] at H
                  exact absurd H (by simp)
                ·rw [if_neg c32] at H
                 exact absurd H (by simp)
               ·rw [if_neg c31] at H
                exact absurd H (by simp)
             ·rw [if_neg c27] at H
              exact absurd H (by simp)
            ·rw [if_neg c26] at H
             exact absurd H (by simp)
           ·rw [if_neg c25] at H
            have c25b0 : decide (x10_3 < 13) = false := decide_eq_false c25
            clear c25
            have H' := qq0.mk H
            clear H
            go_wp2
            go_roundg k3
            case measure => have := HK1.out; have := HK2.out; have := HK3.out; omega
            case rel => exact ⟨(x5_3), (wrap64 (x9_2 + 1)), (by first | rfl | (simp; done) | (simp [*]; done)), H', ⟨by have := HK1.out; have := HK2.out; have := HK3.out; omega⟩, ⟨by (with_reducible repeat (first | apply Kd.R_alloc | apply Kd.R_drewN | apply Kd.R_drew)); exact HO_5.out⟩, ⟨by repeat (first | (with_reducible first | exact HB.out | apply qq3 | apply qq1 | apply qq2) | exact HB.out)⟩⟩
        ·rw [if_neg c24] at H
         have c24b0 : decide (x9_2 < (l1.length : Int)) = false := decide_eq_false c24
         clear c24
         obtain rfl := Option.some.inj H
         go_wp2
         go_ret
         exact ⟨_, by first | rfl | (simp [qz5, qz4] <;> rfl) | (simp only [← hji3]; first | rfl | (simp [qz5, qz4] <;> rfl)) | (simp [*, qz5, qz4] <;> rfl), by (with_reducible repeat (first | apply Kd.R_alloc | apply Kd.R_drewN | apply Kd.R_drew)); exact HO_5.out, by repeat (first | (with_reducible first | exact HB.out | apply qq3 | apply qq1 | apply qq2) | exact HB.out)⟩
  ·rw [if_neg c5] at H
   exact absurd H (by simp)
 ·rw [if_neg c4] at H
  exact absurd H (by simp)
end Go.Proofs.Ytoemcdkopnclbaa.A
