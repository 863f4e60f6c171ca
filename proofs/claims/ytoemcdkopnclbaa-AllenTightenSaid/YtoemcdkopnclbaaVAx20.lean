-- Written by a program (given_print.py of this session, over the kit's print.py): all laws of the seat in one namespace, some functions proved by hand elsewhere. Lean checks it.
import Derived.Test.YtoemcdkopnclbaaVAx0
import Derived.Test.YtoemcdkopnclbaaVAx14
import Derived.Test.YtoemcdkopnclbaaVAx18
import Derived.Test.YtoemcdkopnclbaaVAx19
import Derived.Test.YtoemcdkopnclbaaVHAwake
import Derived.Test.YtoemcdkopnclbaaVHTighten
namespace Go.Proofs.Ytoemcdkopnclbaa.A
open Go.RowKit Go.Proofs.YtoemcdkopnclbaaW.PrintWords Go.Proofs.YtoemcdkopnclbaaW.PrintLast Go.Proofs.YtoemcdkopnclbaaW.PrintMore
attribute [local go_sem] max2_int min2_int max_two min_two max_three min_three max_four min_four
set_option linter.unusedVariables false
set_option linter.unusedSimpArgs false
mutual
def bitemporallaw02_AllenTighten.j0 : Nat → Int → List (S51) → Bool → Option (Bool)
 | 0, _, _, _ => none
 | k + 1, x0, x1, x25 => if x25 = true then ((bitemporallaw02_awake.f k).bind fun t316 => (some t316)) else ((allen_Tighten.f k x0 x1).bind fun bt317 => ((bitemporalref02_Tighten.f k x0 x1).bind fun bt321 => (if (bt317.2 != bt321.2) = true then (bitemporallaw02_AllenTighten.j1 k x0 bt317.1 bt317.2 true) else ((bitemporalref02_Same.f k bt317.1 bt321.1).bind fun t325 => (bitemporallaw02_AllenTighten.j1 k x0 bt317.1 bt317.2 (!t325))))))
def bitemporallaw02_AllenTighten.j1 : Nat → Int → List (S51) → Bool → Bool → Option (Bool)
 | 0, _, _, _, _ => none
 | k + 1, x0, x5, x6, x47 => if x47 = true then (some false) else (if x6 = true then ((allen_Tighten.f k x0 x5).bind fun bt326 => (if bt326.2 = true then ((bitemporalref02_Same.f k x5 bt326.1).bind fun t330 => (if t330 = true then ((bitemporallaw02_awake.f k).bind fun t331 => (some t331)) else (some false))) else (some false))) else ((bitemporallaw02_awake.f k).bind fun t332 => (some t332)))
end
def bitemporallaw02_AllenTighten.f (k : Nat) (a0 : Int) (l1 : List (S51)) : Option (Bool) := if a0 > 5 then (if a0 ≤ 8 then (if (l1.length : Int) > 2 then (bitemporallaw02_AllenTighten.j0 k a0 l1 true) else ((bitemporalref02_Large.f k l1).bind fun t313 => (bitemporallaw02_AllenTighten.j0 k a0 l1 t313))) else ((bitemporalref02_Large.f k l1).bind fun t314 => (bitemporallaw02_AllenTighten.j0 k a0 l1 t314))) else ((bitemporalref02_Large.f k l1).bind fun t315 => (bitemporallaw02_AllenTighten.j0 k a0 l1 t315))
set_option maxHeartbeats 8000000 in
set_option maxRecDepth 100000 in
theorem bitemporallaw02_AllenTighten.calls (k : Nat) (a0 : Int) (A1 : Option Addr) (c1 : Nat) (l1 : List (S51)) (r : Bool) (w : World) (hr1 : Kd.C k51 w A1 l1.length l1) (hc1 : l1.length ≤ c1) (h : bitemporallaw02_AllenTighten.f k a0 l1 = some r) :
  Calls Try.prog 8 #[.int .i64 a0, .slice A1 l1.length c1] w fun e w' => e = .returned (.bool r) ∧ Below w.heap.size w w' := by
 have HR1 := qq0.mk hr1
 have HC1 := qq0.mk hc1
 clear hr1 hc1
 have HB := qq0.mk (Below.refl w.heap.size w)
 have H : (if a0 > 5 then (if a0 ≤ 8 then (if (l1.length : Int) > 2 then (bitemporallaw02_AllenTighten.j0 k a0 l1 true) else ((bitemporalref02_Large.f k l1).bind fun t313 => (bitemporallaw02_AllenTighten.j0 k a0 l1 t313))) else ((bitemporalref02_Large.f k l1).bind fun t314 => (bitemporallaw02_AllenTighten.j0 k a0 l1 t314))) else ((bitemporalref02_Large.f k l1).bind fun t315 => (bitemporallaw02_AllenTighten.j0 k a0 l1 t315))) = some r := h
 clear h
 have HC3 := qq0.mk H
 clear H
 go_enter Try.func8, Try.ntmps8
 go_upto_region 1 with (fail)
 go_cut [25] (fun v25 wc => ∃ (kq : Nat) (x25_2 : Bool), v25 = .bool x25_2 ∧ qq0 (bitemporallaw02_AllenTighten.j0 kq a0 l1 x25_2 = some r) ∧ qq0 (kq ≤ k) ∧ qq0 (Below w.heap.size w wc))
 case first =>
  have H := HC3.out
  clear HC3
  by_cases c4 : a0 > 5
  ·rw [if_pos c4] at H
   have c4b0 : decide (5 < a0) = true := decide_eq_true c4
   clear c4
   (first | rw [c4b0] | (simp only [i64_w, i32_w]; rw [c4b0]) | skip)
   by_cases c5 : a0 ≤ 8
   ·rw [if_pos c5] at H
    have c5b0 : decide (a0 ≤ 8) = true := decide_eq_true c5
    clear c5
    by_cases c6 : (l1.length : Int) > 2
    ·rw [if_pos c6] at H
     have c6b0 : decide (2 < (l1.length : Int)) = true := decide_eq_true c6
     have c6b1 : decide (2 < l1.length) = true := decide_eq_true (by omega)
     clear c6
     have H' := qq0.mk H
     clear H
     go_wp2
     go_meet
     case rel => exact ⟨_, (true), (by first | rfl | (simp; done) | (simp [*]; done)), H', ⟨by first | omega | exact Nat.le_refl _⟩, ⟨by repeat (first | (with_reducible first | exact HB.out | apply qq3 | apply qq1 | apply qq2) | exact HB.out)⟩⟩
    ·rw [if_neg c6] at H
     have c6b0 : decide (2 < (l1.length : Int)) = false := decide_eq_false c6
     have c6b1 : decide (2 < l1.length) = false := decide_eq_false (by omega)
     clear c6
     replace H := Option.bind_eq_some_iff.mp H
     obtain ⟨t313, A70, H⟩ := H
     replace H : (bitemporallaw02_AllenTighten.j0 k a0 l1 t313) = some r := H
     have A7 := qq0.mk A70
     clear A70
     have H' := qq0.mk H
     clear H
     go_wp2_with (first | (go_at_call 24; (with_reducible refine (bitemporalref02_Large.calls k _ _ l1 t313 _ ?side1 ?side2 A7.out).mono ?_); (case side1 => repeat (first | exact (Kd.C_below HR1.out HB.out) | (with_reducible refine Kd.C_alloc ?_ _) | (with_reducible refine Kd.C_drewN ?_ _) | (with_reducible refine Kd.C_drew ?_))); (case side2 => exact HC1.out); rintro e w' ⟨rfl, ⟨nd, rfl⟩⟩))
     go_meet
     case rel => exact ⟨_, (t313), (by first | rfl | (simp; done) | (simp [*]; done)), H', ⟨by first | omega | exact Nat.le_refl _⟩, ⟨by repeat (first | (with_reducible first | exact HB.out | apply qq3 | apply qq1 | apply qq2) | exact HB.out)⟩⟩
   ·rw [if_neg c5] at H
    have c5b0 : decide (a0 ≤ 8) = false := decide_eq_false c5
    clear c5
    replace H := Option.bind_eq_some_iff.mp H
    obtain ⟨t314, A80, H⟩ := H
    replace H : (bitemporallaw02_AllenTighten.j0 k a0 l1 t314) = some r := H
    have A8 := qq0.mk A80
    clear A80
    have H' := qq0.mk H
    clear H
    go_wp2_with (first | (go_at_call 24; (with_reducible refine (bitemporalref02_Large.calls k _ _ l1 t314 _ ?side1 ?side2 A8.out).mono ?_); (case side1 => repeat (first | exact (Kd.C_below HR1.out HB.out) | (with_reducible refine Kd.C_alloc ?_ _) | (with_reducible refine Kd.C_drewN ?_ _) | (with_reducible refine Kd.C_drew ?_))); (case side2 => exact HC1.out); rintro e w' ⟨rfl, ⟨nd, rfl⟩⟩))
    go_meet
    case rel => exact ⟨_, (t314), (by first | rfl | (simp; done) | (simp [*]; done)), H', ⟨by first | omega | exact Nat.le_refl _⟩, ⟨by repeat (first | (with_reducible first | exact HB.out | apply qq3 | apply qq1 | apply qq2) | exact HB.out)⟩⟩
  ·rw [if_neg c4] at H
   have c4b0 : decide (5 < a0) = false := decide_eq_false c4
   clear c4
   (first | rw [c4b0] | (simp only [i64_w, i32_w]; rw [c4b0]) | skip)
   replace H := Option.bind_eq_some_iff.mp H
   obtain ⟨t315, A90, H⟩ := H
   replace H : (bitemporallaw02_AllenTighten.j0 k a0 l1 t315) = some r := H
   have A9 := qq0.mk A90
   clear A90
   have H' := qq0.mk H
   clear H
   go_wp2_with (first | (go_at_call 24; (with_reducible refine (bitemporalref02_Large.calls k _ _ l1 t315 _ ?side1 ?side2 A9.out).mono ?_); (case side1 => repeat (first | exact (Kd.C_below HR1.out HB.out) | (with_reducible refine Kd.C_alloc ?_ _) | (with_reducible refine Kd.C_drewN ?_ _) | (with_reducible refine Kd.C_drew ?_))); (case side2 => exact HC1.out); rintro e w' ⟨rfl, ⟨nd, rfl⟩⟩))
   go_meet
   case rel => exact ⟨_, (t315), (by first | rfl | (simp; done) | (simp [*]; done)), H', ⟨by first | omega | exact Nat.le_refl _⟩, ⟨by repeat (first | (with_reducible first | exact HB.out | apply qq3 | apply qq1 | apply qq2) | exact HB.out)⟩⟩
 case rest =>
  clear HC3
  try clear c1
  try clear p2
  try clear c4
  try clear c4b0
  try clear c5
  try clear c5b0
  try clear c6
  try clear c6b0
  try clear c6b1
  try clear c8
  obtain ⟨kq, x25_2, rfl, HA, HJ2, HB⟩ := hcut
  cases kq with
  | zero => exact absurd HA.out (by simp [bitemporallaw02_AllenTighten.j0])
  | succ kj2 =>
   have H := HA.out
   clear HA
   simp only [bitemporallaw02_AllenTighten.j0] at H
   by_cases c10 : x25_2 = true
   ·subst c10
    have H1 : ((bitemporallaw02_awake.f kj2).bind fun t316 => (some t316)) = some r := by rw [if_pos rfl] at H; exact H
    clear H
    have H := H1
    clear H1
    replace H := Option.bind_eq_some_iff.mp H
    obtain ⟨t316, A110, H⟩ := H
    replace H : (some t316) = some r := H
    have A11 := qq0.mk A110
    clear A110
    obtain rfl := Option.some.inj H
    go_wp2_with (first | ((with_reducible refine gate_callee (f := 15) rfl ?_); refine goesL_ (some 26) rfl rfl Try.func15 (by kernel_rfl) rfl #[] rfl (by (try simp only [List.map_toArray, List.map_cons, List.map_nil]); first | done | rfl | (simp only [List.length_drop, List.length_take]; rfl)) ?_; (with_reducible refine (bitemporallaw02_awake.calls kj2  t316 _ A11.out).mono ?_); rintro e w12 ⟨rfl, hb⟩; refine ⟨_, rfl, ?_⟩; have n0_ := qq0.mk (qq7 (by repeat (first | (with_reducible first | exact HB.out | apply qq3 | apply qq1 | apply qq2) | exact HB.out)) hb); clear HB; have HB := n0_; clear n0_; (try clear hb); (try clear hb2); (try clear hk); (try clear hi)))
    go_ret
    exact ⟨by first | rfl | (simp [qz5, qz4] <;> rfl) | (simp [*, qz5, qz4] <;> rfl), by repeat (first | (with_reducible first | exact HB.out | apply qq3 | apply qq1 | apply qq2) | exact HB.out)⟩
   ·replace c10 := Bool.eq_false_iff.mpr c10
    subst c10
    have H1 : ((allen_Tighten.f kj2 a0 l1).bind fun bt317 => ((bitemporalref02_Tighten.f kj2 a0 l1).bind fun bt321 => (if (bt317.2 != bt321.2) = true then (bitemporallaw02_AllenTighten.j1 kj2 a0 bt317.1 bt317.2 true) else ((bitemporalref02_Same.f kj2 bt317.1 bt321.1).bind fun t325 => (bitemporallaw02_AllenTighten.j1 kj2 a0 bt317.1 bt317.2 (!t325)))))) = some r := by rw [if_neg (show ¬ (false = true) by decide)] at H; exact H
    clear H
    have H := H1
    clear H1
    replace H := Option.bind_eq_some_iff.mp H
    obtain ⟨⟨t317, t318⟩, A130, H⟩ := H
    replace H : ((bitemporalref02_Tighten.f kj2 a0 l1).bind fun bt321 => (if (t318 != bt321.2) = true then (bitemporallaw02_AllenTighten.j1 kj2 a0 t317 t318 true) else ((bitemporalref02_Same.f kj2 t317 bt321.1).bind fun t325 => (bitemporallaw02_AllenTighten.j1 kj2 a0 t317 t318 (!t325))))) = some r := H
    have A13 := qq0.mk A130
    clear A130
    replace H := Option.bind_eq_some_iff.mp H
    obtain ⟨⟨t321, t322⟩, A140, H⟩ := H
    replace H : (if (t318 != t322) = true then (bitemporallaw02_AllenTighten.j1 kj2 a0 t317 t318 true) else ((bitemporalref02_Same.f kj2 t317 t321).bind fun t325 => (bitemporallaw02_AllenTighten.j1 kj2 a0 t317 t318 (!t325)))) = some r := H
    have A14 := qq0.mk A140
    clear A140
    have HC15 := qq0.mk H
    clear H
    go_upto_region 5 with (first | ((with_reducible refine gate_callee (f := 25) rfl ?_); refine goesL_ (some 30) rfl rfl Try.func25 (by kernel_rfl) rfl #[.int .i64 a0, .slice A1 l1.length c1] rfl (by (try simp only [List.map_toArray, List.map_cons, List.map_nil]); first | done | rfl | (simp only [List.length_drop, List.length_take]; rfl)) ?_; (with_reducible refine (allen_Tighten.calls kj2 a0 _ _ l1 t317 t318 _ ?side1 ?side2 A13.out).mono ?_); (case side1 => repeat (first | exact (Kd.C_below HR1.out HB.out) | (with_reducible refine Kd.C_alloc ?_ _) | (with_reducible refine Kd.C_drewN ?_ _) | (with_reducible refine Kd.C_drew ?_))); (case side2 => exact HC1.out); rintro e w16 ⟨v319, rfl, ho0, hb⟩; refine ⟨_, rfl, ?_⟩; have n0_ := qq0.mk (Kd.S_lower ho0 (qz2 (by repeat (first | (with_reducible first | exact HB.out | apply qq3 | apply qq1 | apply qq2) | exact HB.out)))); have n1_ := qq0.mk (qq7 (by repeat (first | (with_reducible first | exact HB.out | apply qq3 | apply qq1 | apply qq2) | exact HB.out)) hb); clear HB; have HO320 := n0_; have HB := n1_; clear n0_ n1_; (try clear hb); (try clear hb2); (try clear hk); (try clear hi); (try clear ho0)) | ((with_reducible refine gate_callee (f := 26) rfl ?_); refine goesL_ (some 36) rfl rfl Try.func26 (by kernel_rfl) rfl #[.int .i64 a0, .slice A1 l1.length c1] rfl (by (try simp only [List.map_toArray, List.map_cons, List.map_nil]); first | done | rfl | (simp only [List.length_drop, List.length_take]; rfl)) ?_; (with_reducible refine (bitemporalref02_Tighten.calls kj2 a0 _ _ l1 t321 t322 _ ?side1 ?side2 A14.out).mono ?_); (case side1 => repeat (first | exact (Kd.C_below HR1.out HB.out) | (with_reducible refine Kd.C_alloc ?_ _) | (with_reducible refine Kd.C_drewN ?_ _) | (with_reducible refine Kd.C_drew ?_))); (case side2 => exact HC1.out); rintro e w17 ⟨v323, rfl, ho0, hb⟩; refine ⟨_, rfl, ?_⟩; have n0_ := qq0.mk (Kd.S_elder' (by (with_reducible repeat (first | apply Kd.S_alloc | apply Kd.S_drewN | apply Kd.S_drew)); exact HO320.out) (Kd.S_base ho0) hb); have n1_ := qq0.mk (Kd.S_lower (Kd.S_new' ho0 (Kd.S_lt (by (with_reducible repeat (first | apply Kd.S_alloc | apply Kd.S_drewN | apply Kd.S_drew)); exact HO320.out))) (qz2 (by repeat (first | (with_reducible first | exact HB.out | apply qq3 | apply qq1 | apply qq2) | exact HB.out)))); have n2_ := qq0.mk (qq7 (by repeat (first | (with_reducible first | exact HB.out | apply qq3 | apply qq1 | apply qq2) | exact HB.out)) hb); clear HO320; clear HB; have HO320 := n0_; have HO324 := n1_; have HB := n2_; clear n0_ n1_ n2_; (try clear hb); (try clear hb2); (try clear hk); (try clear hi); (try clear ho0)))
    (try simp only [Act.put, List.setIfInBounds_toArray, List.set_cons_zero, List.set_cons_succ])
    go_cut [47] (fun v47 wc => ∃ (kq : Nat) (x47_14 : Bool), v47 = .bool x47_14 ∧ qq0 (bitemporallaw02_AllenTighten.j1 kq a0 t317 t318 x47_14 = some r) ∧ qq0 (kq ≤ kj2) ∧ qq0 (Kd.S k51 51 wc w.heap.size (fun _ => True) v319 t317) ∧ qq0 (Below w.heap.size w wc))
    case first =>
     have H := HC15.out
     clear HC15
     by_cases c18 : (t318 != t322) = true
     ·rw [if_pos c18] at H
      have c18b0 : (t318 != t322) = true := c18
      (try (have c18b1 : decide (t318 = t322) = false := by simpa using c18))
      (try (have c18b2 : (t318 == t322) = false := by simpa using c18))
      (try (have c18b3 : ¬ (t318 = t322) := by simpa using c18))
      clear c18
      (first | rw [c18b0] | (simp only [i64_w, i32_w]; rw [c18b0]) | skip)
      have H' := qq0.mk H
      clear H
      go_wp2
      go_meet
      case rel => exact ⟨_, (true), (by first | rfl | (simp; done) | (simp [*]; done)), H', ⟨by have := HJ2.out; first | omega | exact Nat.le_refl _⟩, ⟨by (with_reducible repeat (first | apply Kd.S_alloc | apply Kd.S_drewN | apply Kd.S_drew)); exact Kd.S_mono HO320.out (fun _ hk => trivial)⟩, ⟨by repeat (first | (with_reducible first | exact HB.out | apply qq3 | apply qq1 | apply qq2) | exact HB.out)⟩⟩
     ·rw [if_neg c18] at H
      have c18b0 : (t318 != t322) = false := by simpa using c18
      (try (have c18b1 : decide (t318 = t322) = true := by simpa using c18))
      (try (have c18b2 : (t318 == t322) = true := by simpa using c18))
      clear c18
      (first | rw [c18b0] | (simp only [i64_w, i32_w]; rw [c18b0]) | skip)
      replace H := Option.bind_eq_some_iff.mp H
      obtain ⟨t325, A190, H⟩ := H
      replace H : (bitemporallaw02_AllenTighten.j1 kj2 a0 t317 t318 (!t325)) = some r := H
      have A19 := qq0.mk A190
      clear A190
      have H' := qq0.mk H
      clear H
      obtain ⟨Ao20, co20, eo20⟩ := Kd.S_slice HO320.out
      subst eo20
      obtain ⟨Ao21, co21, eo21⟩ := Kd.S_slice HO324.out
      subst eo21
      go_wp2_with (first | (go_at_call 27; (with_reducible refine (bitemporalref02_Same.calls kj2 _ _ t317 _ _ t321 t325 _ ?side1 ?side2 ?side3 ?side4 A19.out).mono ?_); (case side1 => repeat (first | exact (Kd.S_reads' HO320.out).2.2 | (with_reducible refine Kd.C_alloc ?_ _) | (with_reducible refine Kd.C_drewN ?_ _) | (with_reducible refine Kd.C_drew ?_))); (case side2 => exact (Kd.S_reads' HO320.out).2.1); (case side3 => repeat (first | exact (Kd.S_reads' HO324.out).2.2 | (with_reducible refine Kd.C_alloc ?_ _) | (with_reducible refine Kd.C_drewN ?_ _) | (with_reducible refine Kd.C_drew ?_))); (case side4 => exact (Kd.S_reads' HO324.out).2.1); rintro e w22 ⟨rfl, hb⟩; have n0_ := qq0.mk (Kd.S_below (by (with_reducible repeat (first | apply Kd.S_alloc | apply Kd.S_drewN | apply Kd.S_drew)); exact HO320.out) hb); have n1_ := qq0.mk (Kd.S_below (by (with_reducible repeat (first | apply Kd.S_alloc | apply Kd.S_drewN | apply Kd.S_drew)); exact HO324.out) hb); have n2_ := qq0.mk (qq7 (by repeat (first | (with_reducible first | exact HB.out | apply qq3 | apply qq1 | apply qq2) | exact HB.out)) hb); clear HO320; clear HO324; clear HB; have HO320 := n0_; have HO324 := n1_; have HB := n2_; clear n0_ n1_ n2_; (try clear hb); (try clear hb2); (try clear hk); (try clear hi)))
      go_meet
      case rel => exact ⟨_, (!t325), (by first | rfl | (simp; done) | (simp [*]; done)), H', ⟨by have := HJ2.out; first | omega | exact Nat.le_refl _⟩, ⟨by (with_reducible repeat (first | apply Kd.S_alloc | apply Kd.S_drewN | apply Kd.S_drew)); exact Kd.S_mono HO320.out (fun _ hk => trivial)⟩, ⟨by repeat (first | (with_reducible first | exact HB.out | apply qq3 | apply qq1 | apply qq2) | exact HB.out)⟩⟩
    case rest =>
     clear HC15
     try clear c1
     try clear c2
     try clear p2
     try clear c4
     try clear c4b0
     try clear c5
     try clear c5b0
     try clear c6
     try clear c6b0
     try clear c6b1
     try clear c8
     try clear c10
     try clear c15
     try clear c18
     try clear c18b0
     try clear c18b1
     try clear c18b2
     try clear p2
     obtain ⟨kq, x47_14, rfl, HA, HJ14, HO_5, HB⟩ := hcut
     cases kq with
     | zero => exact absurd HA.out (by simp [bitemporallaw02_AllenTighten.j1])
     | succ kj14 =>
      have H := HA.out
      clear HA
      simp only [bitemporallaw02_AllenTighten.j1] at H
      by_cases c23 : x47_14 = true
      ·subst c23
       have H1 : (some false) = some r := by rw [if_pos rfl] at H; exact H
       clear H
       have H := H1
       clear H1
       obtain rfl := Option.some.inj H
       go_wp2
       go_ret
       exact ⟨by first | rfl | (simp [qz5, qz4] <;> rfl) | (simp [*, qz5, qz4] <;> rfl), by repeat (first | (with_reducible first | exact HB.out | apply qq3 | apply qq1 | apply qq2) | exact HB.out)⟩
      ·replace c23 := Bool.eq_false_iff.mpr c23
       subst c23
       have H1 : (if t318 = true then ((allen_Tighten.f kj14 a0 t317).bind fun bt326 => (if bt326.2 = true then ((bitemporalref02_Same.f kj14 t317 bt326.1).bind fun t330 => (if t330 = true then ((bitemporallaw02_awake.f kj14).bind fun t331 => (some t331)) else (some false))) else (some false))) else ((bitemporallaw02_awake.f kj14).bind fun t332 => (some t332))) = some r := by rw [if_neg (show ¬ (false = true) by decide)] at H; exact H
       clear H
       have H := H1
       clear H1
       by_cases c24 : t318 = true
       ·subst c24
        have H1 : ((allen_Tighten.f kj14 a0 t317).bind fun bt326 => (if bt326.2 = true then ((bitemporalref02_Same.f kj14 t317 bt326.1).bind fun t330 => (if t330 = true then ((bitemporallaw02_awake.f kj14).bind fun t331 => (some t331)) else (some false))) else (some false))) = some r := by rw [if_pos rfl] at H; exact H
        clear H
        have H := H1
        clear H1
        replace H := Option.bind_eq_some_iff.mp H
        obtain ⟨⟨t326, t327⟩, A250, H⟩ := H
        replace H : (if t327 = true then ((bitemporalref02_Same.f kj14 t317 t326).bind fun t330 => (if t330 = true then ((bitemporallaw02_awake.f kj14).bind fun t331 => (some t331)) else (some false))) else (some false)) = some r := H
        have A25 := qq0.mk A250
        clear A250
        by_cases c26 : t327 = true
        ·subst c26
         have H1 : ((bitemporalref02_Same.f kj14 t317 t326).bind fun t330 => (if t330 = true then ((bitemporallaw02_awake.f kj14).bind fun t331 => (some t331)) else (some false))) = some r := by rw [if_pos rfl] at H; exact H
         clear H
         have H := H1
         clear H1
         replace H := Option.bind_eq_some_iff.mp H
         obtain ⟨t330, A270, H⟩ := H
         replace H : (if t330 = true then ((bitemporallaw02_awake.f kj14).bind fun t331 => (some t331)) else (some false)) = some r := H
         have A27 := qq0.mk A270
         clear A270
         by_cases c28 : t330 = true
         ·subst c28
          have H1 : ((bitemporallaw02_awake.f kj14).bind fun t331 => (some t331)) = some r := by rw [if_pos rfl] at H; exact H
          clear H
          have H := H1
          clear H1
          replace H := Option.bind_eq_some_iff.mp H
          obtain ⟨t331, A290, H⟩ := H
          replace H : (some t331) = some r := H
          have A29 := qq0.mk A290
          clear A290
          obtain rfl := Option.some.inj H
          obtain ⟨Ao30, co30, eo30⟩ := Kd.S_slice HO_5.out
          subst eo30
          go_wp2_with (first | ((with_reducible refine gate_callee (f := 25) rfl ?_); refine goesL_ (some 54) rfl rfl Try.func25 (by kernel_rfl) rfl #[.int .i64 a0, .slice Ao30 t317.length co30] rfl (by (try simp only [List.map_toArray, List.map_cons, List.map_nil]); first | done | rfl | (simp only [List.length_drop, List.length_take]; rfl)) ?_; (with_reducible refine (allen_Tighten.calls kj14 a0 _ _ t317 t326 true _ ?side1 ?side2 A25.out).mono ?_); (case side1 => repeat (first | exact (Kd.S_reads' HO_5.out).2.2 | (with_reducible refine Kd.C_alloc ?_ _) | (with_reducible refine Kd.C_drewN ?_ _) | (with_reducible refine Kd.C_drew ?_))); (case side2 => exact (Kd.S_reads' HO_5.out).2.1); rintro e w31 ⟨v328, rfl, ho0, hb⟩; refine ⟨_, rfl, ?_⟩; have n0_ := qq0.mk (Kd.S_elder' (by (with_reducible repeat (first | apply Kd.S_alloc | apply Kd.S_drewN | apply Kd.S_drew)); exact HO_5.out) (Kd.S_base ho0) hb); have n1_ := qq0.mk (Kd.S_lower (Kd.S_new' ho0 (Kd.S_lt (by (with_reducible repeat (first | apply Kd.S_alloc | apply Kd.S_drewN | apply Kd.S_drew)); exact HO_5.out))) (qz2 (by repeat (first | (with_reducible first | exact HB.out | apply qq3 | apply qq1 | apply qq2) | exact HB.out)))); have n2_ := qq0.mk (qq7 (by repeat (first | (with_reducible first | exact HB.out | apply qq3 | apply qq1 | apply qq2) | exact HB.out)) hb); clear HO_5; clear HB; have HO_5 := n0_; have HO329 := n1_; have HB := n2_; clear n0_ n1_ n2_; (try clear hb); (try clear hb2); (try clear hk); (try clear hi); (try clear ho0); obtain ⟨Ao32, co32, eo32⟩ := Kd.S_slice HO329.out; subst eo32) | (go_at_call 27; (with_reducible refine (bitemporalref02_Same.calls kj14 _ _ t317 _ _ t326 true _ ?side1 ?side2 ?side3 ?side4 A27.out).mono ?_); (case side1 => repeat (first | exact (Kd.S_reads' HO_5.out).2.2 | (with_reducible refine Kd.C_alloc ?_ _) | (with_reducible refine Kd.C_drewN ?_ _) | (with_reducible refine Kd.C_drew ?_))); (case side2 => exact (Kd.S_reads' HO_5.out).2.1); (case side3 => repeat (first | exact (Kd.S_reads' HO329.out).2.2 | (with_reducible refine Kd.C_alloc ?_ _) | (with_reducible refine Kd.C_drewN ?_ _) | (with_reducible refine Kd.C_drew ?_))); (case side4 => exact (Kd.S_reads' HO329.out).2.1); rintro e w33 ⟨rfl, hb⟩; have n0_ := qq0.mk (Kd.S_below (by (with_reducible repeat (first | apply Kd.S_alloc | apply Kd.S_drewN | apply Kd.S_drew)); exact HO_5.out) hb); have n1_ := qq0.mk (Kd.S_below (by (with_reducible repeat (first | apply Kd.S_alloc | apply Kd.S_drewN | apply Kd.S_drew)); exact HO329.out) hb); have n2_ := qq0.mk (qq7 (by repeat (first | (with_reducible first | exact HB.out | apply qq3 | apply qq1 | apply qq2) | exact HB.out)) hb); clear HO_5; clear HO329; clear HB; have HO_5 := n0_; have HO329 := n1_; have HB := n2_; clear n0_ n1_ n2_; (try clear hb); (try clear hb2); (try clear hk); (try clear hi)) | (go_at_call 15; (with_reducible refine (bitemporallaw02_awake.calls kj14  t331 _ A29.out).mono ?_); rintro e w34 ⟨rfl, hb⟩; have n0_ := qq0.mk (Kd.S_below (by (with_reducible repeat (first | apply Kd.S_alloc | apply Kd.S_drewN | apply Kd.S_drew)); exact HO_5.out) hb); have n1_ := qq0.mk (Kd.S_below (by (with_reducible repeat (first | apply Kd.S_alloc | apply Kd.S_drewN | apply Kd.S_drew)); exact HO329.out) hb); have n2_ := qq0.mk (qq7 (by repeat (first | (with_reducible first | exact HB.out | apply qq3 | apply qq1 | apply qq2) | exact HB.out)) hb); clear HO_5; clear HO329; clear HB; have HO_5 := n0_; have HO329 := n1_; have HB := n2_; clear n0_ n1_ n2_; (try clear hb); (try clear hb2); (try clear hk); (try clear hi)))
          go_ret
          exact ⟨by first | rfl | (simp [qz5, qz4] <;> rfl) | (simp [*, qz5, qz4] <;> rfl), by repeat (first | (with_reducible first | exact HB.out | apply qq3 | apply qq1 | apply qq2) | exact HB.out)⟩
         ·replace c28 := Bool.eq_false_iff.mpr c28
          subst c28
          have H1 : (some false) = some r := by rw [if_neg (show ¬ (false = true) by decide)] at H; exact H
          clear H
          have H := H1
          clear H1
          obtain rfl := Option.some.inj H
          obtain ⟨Ao35, co35, eo35⟩ := Kd.S_slice HO_5.out
          subst eo35
          go_wp2_with (first | ((with_reducible refine gate_callee (f := 25) rfl ?_); refine goesL_ (some 54) rfl rfl Try.func25 (by kernel_rfl) rfl #[.int .i64 a0, .slice Ao35 t317.length co35] rfl (by (try simp only [List.map_toArray, List.map_cons, List.map_nil]); first | done | rfl | (simp only [List.length_drop, List.length_take]; rfl)) ?_; (with_reducible refine (allen_Tighten.calls kj14 a0 _ _ t317 t326 true _ ?side1 ?side2 A25.out).mono ?_); (case side1 => repeat (first | exact (Kd.S_reads' HO_5.out).2.2 | (with_reducible refine Kd.C_alloc ?_ _) | (with_reducible refine Kd.C_drewN ?_ _) | (with_reducible refine Kd.C_drew ?_))); (case side2 => exact (Kd.S_reads' HO_5.out).2.1); rintro e w36 ⟨v328, rfl, ho0, hb⟩; refine ⟨_, rfl, ?_⟩; have n0_ := qq0.mk (Kd.S_elder' (by (with_reducible repeat (first | apply Kd.S_alloc | apply Kd.S_drewN | apply Kd.S_drew)); exact HO_5.out) (Kd.S_base ho0) hb); have n1_ := qq0.mk (Kd.S_lower (Kd.S_new' ho0 (Kd.S_lt (by (with_reducible repeat (first | apply Kd.S_alloc | apply Kd.S_drewN | apply Kd.S_drew)); exact HO_5.out))) (qz2 (by repeat (first | (with_reducible first | exact HB.out | apply qq3 | apply qq1 | apply qq2) | exact HB.out)))); have n2_ := qq0.mk (qq7 (by repeat (first | (with_reducible first | exact HB.out | apply qq3 | apply qq1 | apply qq2) | exact HB.out)) hb); clear HO_5; clear HB; have HO_5 := n0_; have HO329 := n1_; have HB := n2_; clear n0_ n1_ n2_; (try clear hb); (try clear hb2); (try clear hk); (try clear hi); (try clear ho0); obtain ⟨Ao37, co37, eo37⟩ := Kd.S_slice HO329.out; subst eo37) | (go_at_call 27; (with_reducible refine (bitemporalref02_Same.calls kj14 _ _ t317 _ _ t326 false _ ?side1 ?side2 ?side3 ?side4 A27.out).mono ?_); (case side1 => repeat (first | exact (Kd.S_reads' HO_5.out).2.2 | (with_reducible refine Kd.C_alloc ?_ _) | (with_reducible refine Kd.C_drewN ?_ _) | (with_reducible refine Kd.C_drew ?_))); (case side2 => exact (Kd.S_reads' HO_5.out).2.1); (case side3 => repeat (first | exact (Kd.S_reads' HO329.out).2.2 | (with_reducible refine Kd.C_alloc ?_ _) | (with_reducible refine Kd.C_drewN ?_ _) | (with_reducible refine Kd.C_drew ?_))); (case side4 => exact (Kd.S_reads' HO329.out).2.1); rintro e w38 ⟨rfl, hb⟩; have n0_ := qq0.mk (Kd.S_below (by (with_reducible repeat (first | apply Kd.S_alloc | apply Kd.S_drewN | apply Kd.S_drew)); exact HO_5.out) hb); have n1_ := qq0.mk (Kd.S_below (by (with_reducible repeat (first | apply Kd.S_alloc | apply Kd.S_drewN | apply Kd.S_drew)); exact HO329.out) hb); have n2_ := qq0.mk (qq7 (by repeat (first | (with_reducible first | exact HB.out | apply qq3 | apply qq1 | apply qq2) | exact HB.out)) hb); clear HO_5; clear HO329; clear HB; have HO_5 := n0_; have HO329 := n1_; have HB := n2_; clear n0_ n1_ n2_; (try clear hb); (try clear hb2); (try clear hk); (try clear hi)))
          go_ret
          exact ⟨by first | rfl | (simp [qz5, qz4] <;> rfl) | (simp [*, qz5, qz4] <;> rfl), by repeat (first | (with_reducible first | exact HB.out | apply qq3 | apply qq1 | apply qq2) | exact HB.out)⟩
        ·replace c26 := Bool.eq_false_iff.mpr c26
         subst c26
         have H1 : (some false) = some r := by rw [if_neg (show ¬ (false = true) by decide)] at H; exact H
         clear H
         have H := H1
         clear H1
         obtain rfl := Option.some.inj H
         obtain ⟨Ao39, co39, eo39⟩ := Kd.S_slice HO_5.out
         subst eo39
         go_wp2_with (first | ((with_reducible refine gate_callee (f := 25) rfl ?_); refine goesL_ (some 54) rfl rfl Try.func25 (by kernel_rfl) rfl #[.int .i64 a0, .slice Ao39 t317.length co39] rfl (by (try simp only [List.map_toArray, List.map_cons, List.map_nil]); first | done | rfl | (simp only [List.length_drop, List.length_take]; rfl)) ?_; (with_reducible refine (allen_Tighten.calls kj14 a0 _ _ t317 t326 false _ ?side1 ?side2 A25.out).mono ?_); (case side1 => repeat (first | exact (Kd.S_reads' HO_5.out).2.2 | (with_reducible refine Kd.C_alloc ?_ _) | (with_reducible refine Kd.C_drewN ?_ _) | (with_reducible refine Kd.C_drew ?_))); (case side2 => exact (Kd.S_reads' HO_5.out).2.1); rintro e w40 ⟨v328, rfl, ho0, hb⟩; refine ⟨_, rfl, ?_⟩; have n0_ := qq0.mk (Kd.S_elder' (by (with_reducible repeat (first | apply Kd.S_alloc | apply Kd.S_drewN | apply Kd.S_drew)); exact HO_5.out) (Kd.S_base ho0) hb); have n1_ := qq0.mk (Kd.S_lower (Kd.S_new' ho0 (Kd.S_lt (by (with_reducible repeat (first | apply Kd.S_alloc | apply Kd.S_drewN | apply Kd.S_drew)); exact HO_5.out))) (qz2 (by repeat (first | (with_reducible first | exact HB.out | apply qq3 | apply qq1 | apply qq2) | exact HB.out)))); have n2_ := qq0.mk (qq7 (by repeat (first | (with_reducible first | exact HB.out | apply qq3 | apply qq1 | apply qq2) | exact HB.out)) hb); clear HO_5; clear HB; have HO_5 := n0_; have HO329 := n1_; have HB := n2_; clear n0_ n1_ n2_; (try clear hb); (try clear hb2); (try clear hk); (try clear hi); (try clear ho0)))
         go_ret
         exact ⟨by first | rfl | (simp [qz5, qz4] <;> rfl) | (simp [*, qz5, qz4] <;> rfl), by repeat (first | (with_reducible first | exact HB.out | apply qq3 | apply qq1 | apply qq2) | exact HB.out)⟩
       ·replace c24 := Bool.eq_false_iff.mpr c24
        subst c24
        have H1 : ((bitemporallaw02_awake.f kj14).bind fun t332 => (some t332)) = some r := by rw [if_neg (show ¬ (false = true) by decide)] at H; exact H
        clear H
        have H := H1
        clear H1
        replace H := Option.bind_eq_some_iff.mp H
        obtain ⟨t332, A410, H⟩ := H
        replace H : (some t332) = some r := H
        have A41 := qq0.mk A410
        clear A410
        obtain rfl := Option.some.inj H
        go_wp2_with (first | ((with_reducible refine gate_callee (f := 15) rfl ?_); refine goesL_ (some 50) rfl rfl Try.func15 (by kernel_rfl) rfl #[] rfl (by (try simp only [List.map_toArray, List.map_cons, List.map_nil]); first | done | rfl | (simp only [List.length_drop, List.length_take]; rfl)) ?_; (with_reducible refine (bitemporallaw02_awake.calls kj14  t332 _ A41.out).mono ?_); rintro e w42 ⟨rfl, hb⟩; refine ⟨_, rfl, ?_⟩; have n0_ := qq0.mk (Kd.S_below (by (with_reducible repeat (first | apply Kd.S_alloc | apply Kd.S_drewN | apply Kd.S_drew)); exact HO_5.out) hb); have n1_ := qq0.mk (qq7 (by repeat (first | (with_reducible first | exact HB.out | apply qq3 | apply qq1 | apply qq2) | exact HB.out)) hb); clear HO_5; clear HB; have HO_5 := n0_; have HB := n1_; clear n0_ n1_; (try clear hb); (try clear hb2); (try clear hk); (try clear hi)))
        go_ret
        exact ⟨by first | rfl | (simp [qz5, qz4] <;> rfl) | (simp [*, qz5, qz4] <;> rfl), by repeat (first | (with_reducible first | exact HB.out | apply qq3 | apply qq1 | apply qq2) | exact HB.out)⟩
end Go.Proofs.Ytoemcdkopnclbaa.A
