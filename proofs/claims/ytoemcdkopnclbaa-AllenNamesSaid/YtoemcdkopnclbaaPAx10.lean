-- Written by a program (given_print.py of this session, over the kit's print.py): all laws of the seat in one namespace, some functions proved by hand elsewhere. Lean checks it.
import Derived.Test.YtoemcdkopnclbaaPAx0
namespace Go.Proofs.Ytoemcdkopnclbaa.A
open Go.RowKit Go.Proofs.YtoemcdkopnclbaaW.PrintWords Go.Proofs.YtoemcdkopnclbaaW.PrintLast Go.Proofs.YtoemcdkopnclbaaW.PrintMore
attribute [local go_sem] max2_int min2_int max_two min_two max_three min_three max_four min_four   -- for this text's walks alone
set_option linter.unusedVariables false
set_option linter.unusedSimpArgs false
def bitemporalref02_Name.f (a0 : Int) : Option (ByteArray) := if a0 < 0 then (some (⟨#[]⟩ : ByteArray)) else (if a0 ≥ 13 then (some (⟨#[]⟩ : ByteArray)) else ((some (([(⟨#[66, 69, 70, 79, 82, 69]⟩ : ByteArray), (⟨#[77, 69, 69, 84, 83]⟩ : ByteArray), (⟨#[79, 86, 69, 82, 76, 65, 80, 83]⟩ : ByteArray), (⟨#[83, 84, 65, 82, 84, 83]⟩ : ByteArray), (⟨#[68, 85, 82, 73, 78, 71]⟩ : ByteArray), (⟨#[70, 73, 78, 73, 83, 72, 69, 83]⟩ : ByteArray), (⟨#[69, 81, 85, 65, 76, 83]⟩ : ByteArray), (⟨#[70, 73, 78, 73, 83, 72, 69, 68, 66, 89]⟩ : ByteArray), (⟨#[67, 79, 78, 84, 65, 73, 78, 83]⟩ : ByteArray), (⟨#[83, 84, 65, 82, 84, 69, 68, 66, 89]⟩ : ByteArray), (⟨#[79, 86, 69, 82, 76, 65, 80, 80, 69, 68, 66, 89]⟩ : ByteArray), (⟨#[77, 69, 84, 66, 89]⟩ : ByteArray), (⟨#[65, 70, 84, 69, 82]⟩ : ByteArray)] : List ByteArray) : List ByteArray)).bind fun y177 => (if 0 ≤ a0 then (if a0 < (y177.length : Int) then (some (rdOf ByteArray.empty y177 a0)) else (none)) else (none))))
set_option maxHeartbeats 8000000 in
set_option maxRecDepth 100000 in
theorem bitemporalref02_Name.calls (a0 : Int) (r : ByteArray) (w : World) (h : bitemporalref02_Name.f a0 = some r) :
    Calls Try.prog 17 #[.int .i64 a0] w fun e w' => e = .returned (.string r) ∧ Below w.heap.size w w' := by
  have HB := Aside0.mk (Below.refl w.heap.size w)
  have H : (if a0 < 0 then (some (⟨#[]⟩ : ByteArray)) else (if a0 ≥ 13 then (some (⟨#[]⟩ : ByteArray)) else ((some (([(⟨#[66, 69, 70, 79, 82, 69]⟩ : ByteArray), (⟨#[77, 69, 69, 84, 83]⟩ : ByteArray), (⟨#[79, 86, 69, 82, 76, 65, 80, 83]⟩ : ByteArray), (⟨#[83, 84, 65, 82, 84, 83]⟩ : ByteArray), (⟨#[68, 85, 82, 73, 78, 71]⟩ : ByteArray), (⟨#[70, 73, 78, 73, 83, 72, 69, 83]⟩ : ByteArray), (⟨#[69, 81, 85, 65, 76, 83]⟩ : ByteArray), (⟨#[70, 73, 78, 73, 83, 72, 69, 68, 66, 89]⟩ : ByteArray), (⟨#[67, 79, 78, 84, 65, 73, 78, 83]⟩ : ByteArray), (⟨#[83, 84, 65, 82, 84, 69, 68, 66, 89]⟩ : ByteArray), (⟨#[79, 86, 69, 82, 76, 65, 80, 80, 69, 68, 66, 89]⟩ : ByteArray), (⟨#[77, 69, 84, 66, 89]⟩ : ByteArray), (⟨#[65, 70, 84, 69, 82]⟩ : ByteArray)] : List ByteArray) : List ByteArray)).bind fun y177 => (if 0 ≤ a0 then (if a0 < (y177.length : Int) then (some (rdOf ByteArray.empty y177 a0)) else (none)) else (none))))) = some r := h
  clear h
  by_cases c2 : a0 < 0
  · rw [if_pos c2] at H
    have c2b0 : decide (a0 < 0) = true := decide_eq_true c2
    clear c2
    obtain rfl := Option.some.inj H
    go_enter Try.func17, Try.ntmps17
    go_wp2
    go_ret
    exact ⟨by first | rfl | (simp [errW_none, errW_some] <;> rfl) | (simp [*, errW_none, errW_some] <;> rfl), by repeat (first | (with_reducible first | exact HB.out | apply below_alloc | apply pw_below_drewN | apply below_drew1) | exact HB.out)⟩
  · rw [if_neg c2] at H
    have c2b0 : decide (a0 < 0) = false := decide_eq_false c2
    clear c2
    by_cases c3 : a0 ≥ 13
    · rw [if_pos c3] at H
      have c3b0 : decide (13 ≤ a0) = true := decide_eq_true c3
      clear c3
      obtain rfl := Option.some.inj H
      go_enter Try.func17, Try.ntmps17
      go_wp2
      go_ret
      exact ⟨by first | rfl | (simp [errW_none, errW_some] <;> rfl) | (simp [*, errW_none, errW_some] <;> rfl), by repeat (first | (with_reducible first | exact HB.out | apply below_alloc | apply pw_below_drewN | apply below_drew1) | exact HB.out)⟩
    · rw [if_neg c3] at H
      have c3b0 : decide (13 ≤ a0) = false := decide_eq_false c3
      clear c3
      obtain ⟨y177, hy177⟩ : ∃ y_ : List ByteArray, y_ = (([(⟨#[66, 69, 70, 79, 82, 69]⟩ : ByteArray), (⟨#[77, 69, 69, 84, 83]⟩ : ByteArray), (⟨#[79, 86, 69, 82, 76, 65, 80, 83]⟩ : ByteArray), (⟨#[83, 84, 65, 82, 84, 83]⟩ : ByteArray), (⟨#[68, 85, 82, 73, 78, 71]⟩ : ByteArray), (⟨#[70, 73, 78, 73, 83, 72, 69, 83]⟩ : ByteArray), (⟨#[69, 81, 85, 65, 76, 83]⟩ : ByteArray), (⟨#[70, 73, 78, 73, 83, 72, 69, 68, 66, 89]⟩ : ByteArray), (⟨#[67, 79, 78, 84, 65, 73, 78, 83]⟩ : ByteArray), (⟨#[83, 84, 65, 82, 84, 69, 68, 66, 89]⟩ : ByteArray), (⟨#[79, 86, 69, 82, 76, 65, 80, 80, 69, 68, 66, 89]⟩ : ByteArray), (⟨#[77, 69, 84, 66, 89]⟩ : ByteArray), (⟨#[65, 70, 84, 69, 82]⟩ : ByteArray)] : List ByteArray)) := ⟨_, rfl⟩
      replace H : (if 0 ≤ a0 then (if a0 < (y177.length : Int) then (some (rdOf ByteArray.empty y177 a0)) else (none)) else (none)) = some r := by first | (rw [hy177]; with_reducible exact H) | (have H2_ := (Option.bind_some _ _).symm.trans H; rw [hy177]; with_reducible exact H2_) | (have H2_ := (Option.bind_some _ _).symm.trans H; with_reducible exact H2_) | with_reducible exact H | (rw [hy177]; exact H) | exact H
      have Ny177 := Aside0.mk hy177
      clear hy177
      by_cases c4 : 0 ≤ a0
      · rw [if_pos c4] at H
        have c4b0 : decide (0 ≤ a0) = true := decide_eq_true c4
        clear c4
        by_cases c5 : a0 < (y177.length : Int)
        · rw [if_pos c5] at H
          have c5b0 : decide (a0 < (y177.length : Int)) = true := decide_eq_true c5
          clear c5
          obtain rfl := Option.some.inj H
          go_enter Try.func17, Try.ntmps17
          go_wp2_with (first | ((with_reducible refine gate_dst (N := 9) rfl ?_); refine Kd.R_lit Kd.string _ 9 ?hg (N := 9) ?hd (xs := ([(⟨#[66, 69, 70, 79, 82, 69]⟩ : ByteArray), (⟨#[77, 69, 69, 84, 83]⟩ : ByteArray), (⟨#[79, 86, 69, 82, 76, 65, 80, 83]⟩ : ByteArray), (⟨#[83, 84, 65, 82, 84, 83]⟩ : ByteArray), (⟨#[68, 85, 82, 73, 78, 71]⟩ : ByteArray), (⟨#[70, 73, 78, 73, 83, 72, 69, 83]⟩ : ByteArray), (⟨#[69, 81, 85, 65, 76, 83]⟩ : ByteArray), (⟨#[70, 73, 78, 73, 83, 72, 69, 68, 66, 89]⟩ : ByteArray), (⟨#[67, 79, 78, 84, 65, 73, 78, 83]⟩ : ByteArray), (⟨#[83, 84, 65, 82, 84, 69, 68, 66, 89]⟩ : ByteArray), (⟨#[79, 86, 69, 82, 76, 65, 80, 80, 69, 68, 66, 89]⟩ : ByteArray), (⟨#[77, 69, 84, 66, 89]⟩ : ByteArray), (⟨#[65, 70, 84, 69, 82]⟩ : ByteArray)] : List ByteArray)) (inner := [.string (⟨#[66, 69, 70, 79, 82, 69]⟩ : ByteArray), .string (⟨#[77, 69, 69, 84, 83]⟩ : ByteArray), .string (⟨#[79, 86, 69, 82, 76, 65, 80, 83]⟩ : ByteArray), .string (⟨#[83, 84, 65, 82, 84, 83]⟩ : ByteArray), .string (⟨#[68, 85, 82, 73, 78, 71]⟩ : ByteArray), .string (⟨#[70, 73, 78, 73, 83, 72, 69, 83]⟩ : ByteArray), .string (⟨#[69, 81, 85, 65, 76, 83]⟩ : ByteArray), .string (⟨#[70, 73, 78, 73, 83, 72, 69, 68, 66, 89]⟩ : ByteArray), .string (⟨#[67, 79, 78, 84, 65, 73, 78, 83]⟩ : ByteArray), .string (⟨#[83, 84, 65, 82, 84, 69, 68, 66, 89]⟩ : ByteArray), .string (⟨#[79, 86, 69, 82, 76, 65, 80, 80, 69, 68, 66, 89]⟩ : ByteArray), .string (⟨#[77, 69, 84, 66, 89]⟩ : ByteArray), .string (⟨#[65, 70, 84, 69, 82]⟩ : ByteArray)]) (ok := fun _ => True) (okp := fun _ => True) ?hr ?hp (fun _ hk => hk) trivial (Below.refl _ _) (Nat.le_refl _) (by simp) ?_; (case hd => rfl); (case hg => rfl); (case hr => first | (go_simp; done) | (go_simp; rfl)); (case hp => exact (Reps.one (show Kd.M Kd.string _ _ _ (⟨#[66, 69, 70, 79, 82, 69]⟩ : ByteArray) [.string (⟨#[66, 69, 70, 79, 82, 69]⟩ : ByteArray)] from rfl) (Reps.one (show Kd.M Kd.string _ _ _ (⟨#[77, 69, 69, 84, 83]⟩ : ByteArray) [.string (⟨#[77, 69, 69, 84, 83]⟩ : ByteArray)] from rfl) (Reps.one (show Kd.M Kd.string _ _ _ (⟨#[79, 86, 69, 82, 76, 65, 80, 83]⟩ : ByteArray) [.string (⟨#[79, 86, 69, 82, 76, 65, 80, 83]⟩ : ByteArray)] from rfl) (Reps.one (show Kd.M Kd.string _ _ _ (⟨#[83, 84, 65, 82, 84, 83]⟩ : ByteArray) [.string (⟨#[83, 84, 65, 82, 84, 83]⟩ : ByteArray)] from rfl) (Reps.one (show Kd.M Kd.string _ _ _ (⟨#[68, 85, 82, 73, 78, 71]⟩ : ByteArray) [.string (⟨#[68, 85, 82, 73, 78, 71]⟩ : ByteArray)] from rfl) (Reps.one (show Kd.M Kd.string _ _ _ (⟨#[70, 73, 78, 73, 83, 72, 69, 83]⟩ : ByteArray) [.string (⟨#[70, 73, 78, 73, 83, 72, 69, 83]⟩ : ByteArray)] from rfl) (Reps.one (show Kd.M Kd.string _ _ _ (⟨#[69, 81, 85, 65, 76, 83]⟩ : ByteArray) [.string (⟨#[69, 81, 85, 65, 76, 83]⟩ : ByteArray)] from rfl) (Reps.one (show Kd.M Kd.string _ _ _ (⟨#[70, 73, 78, 73, 83, 72, 69, 68, 66, 89]⟩ : ByteArray) [.string (⟨#[70, 73, 78, 73, 83, 72, 69, 68, 66, 89]⟩ : ByteArray)] from rfl) (Reps.one (show Kd.M Kd.string _ _ _ (⟨#[67, 79, 78, 84, 65, 73, 78, 83]⟩ : ByteArray) [.string (⟨#[67, 79, 78, 84, 65, 73, 78, 83]⟩ : ByteArray)] from rfl) (Reps.one (show Kd.M Kd.string _ _ _ (⟨#[83, 84, 65, 82, 84, 69, 68, 66, 89]⟩ : ByteArray) [.string (⟨#[83, 84, 65, 82, 84, 69, 68, 66, 89]⟩ : ByteArray)] from rfl) (Reps.one (show Kd.M Kd.string _ _ _ (⟨#[79, 86, 69, 82, 76, 65, 80, 80, 69, 68, 66, 89]⟩ : ByteArray) [.string (⟨#[79, 86, 69, 82, 76, 65, 80, 80, 69, 68, 66, 89]⟩ : ByteArray)] from rfl) (Reps.one (show Kd.M Kd.string _ _ _ (⟨#[77, 69, 84, 66, 89]⟩ : ByteArray) [.string (⟨#[77, 69, 84, 66, 89]⟩ : ByteArray)] from rfl) (Reps.one (show Kd.M Kd.string _ _ _ (⟨#[65, 70, 84, 69, 82]⟩ : ByteArray) [.string (⟨#[65, 70, 84, 69, 82]⟩ : ByteArray)] from rfl) (Reps.none _ _))))))))))))))); intro v178 w6 ho7 hb hg_ hnew_; clear hg_ hnew_; (first | rw [← Ny177.out] at ho7 | (simp only [Int.reduceToNat] at ho7; rw [← Ny177.out] at ho7)); have n0_ := Aside0.mk (Kd.R_lower ho7 (below_size (by repeat (first | (with_reducible first | exact HB.out | apply below_alloc | apply pw_below_drewN | apply below_drew1) | exact HB.out)))); have n1_ := Aside0.mk (below_step (by repeat (first | (with_reducible first | exact HB.out | apply below_alloc | apply pw_below_drewN | apply below_drew1) | exact HB.out)) hb); clear HB; have HO179 := n0_; have HB := n1_; clear n0_ n1_; clear hb ho7; obtain ⟨Ao8, co8, eo8⟩ := Kd.R_slice HO179.out; subst eo8; have p180 : 0 ≤ (a0 : Int) := of_decide_eq_true (by first | (with_reducible assumption) | assumption); have q180 : a0 < (y177.length : Int) := of_decide_eq_true (by first | (with_reducible assumption) | assumption); obtain ⟨ad180, e180, hx180_0⟩ := Kd.at_string (Kd.R_reads' HO179.out).2.2 a0 p180 q180; cases e180; replace p180 := eq_true p180; replace q180 := eq_true q180))
          go_ret
          exact ⟨by first | rfl | (simp [errW_none, errW_some] <;> rfl) | (simp [*, errW_none, errW_some] <;> rfl), by repeat (first | (with_reducible first | exact HB.out | apply below_alloc | apply pw_below_drewN | apply below_drew1) | exact HB.out)⟩
        · rw [if_neg c5] at H
          exact absurd H (by simp)
      · rw [if_neg c4] at H
        exact absurd H (by simp)
end Go.Proofs.Ytoemcdkopnclbaa.A
