/-
  The plain laws behind ClockCheck and ClockSteps: Check, Steps and Latest answer as the reference's, for every list of stamps.
-/
import Derived.Test.YtaipdnlfhhadjaaQLBase
import Derived.Test.YtaipdnlfhhadjaaQLWorks
import Derived.Test.YtaipdnlfhhadjaaQCx8
namespace Go.Proofs.Ytaipdnlfhhadjaa.C
open Go.RowKit Go.Proofs.YtaipdnlfhhadjaaW.PrintWords Go.Proofs.YtaipdnlfhhadjaaW.PrintLast Go.Proofs.YtaipdnlfhhadjaaW.PrintMore
/-- The first error of a list of stamps, the last time being 'last'. -/
def chk (last : Int) : List S34 → Int
  | [] => 0
  | s :: r => if (0 ≤ s.f1 ∧ s.f1 < 1099511627776) ∧ (0 ≤ s.f0 ∧ s.f0 < 1099511627776) then (if s.f0 ≤ last then 9 else if s.f0 = mx (last + 1) s.f1 then chk s.f0 r else 8) else 6
theorem check_ev (l : List S34) (hl : l.length < 4611686018427387904) : Ev (fun k => clock_Check.f k l) (chk 0 l) := by
  have key : ∀ d i last, l.length - i = d → i ≤ l.length → 0 ≤ last → last < 1099511627776 → Ev (fun k => clock_Check.l0 k last l (l.length : Int) (i : Int)) (chk last (l.drop i)) := by
    intro d
    induction d with
    | zero =>
      intro i last hd hi _ _
      rw [List.drop_eq_nil_of_le (by omega)]
      refine Ev.step (f := fun _ => some 0) (fun k => ?_) (Ev.now _)
      simp only [clock_Check.l0]
      rw [if_neg (by omega)]
    | succ d ih =>
      intro i last hd hi h0 h1
      rw [List.drop_eq_getElem_cons (by omega)]
      obtain ⟨s, hs⟩ : ∃ s, s = l[i]'(by omega) := ⟨_, rfl⟩
      rw [← hs]
      have hrd : rd_T34 l (i : Int) = s := by rw [rd34_get l i (by omega), hs]
      have hw : wrap64 (last + 1) = last + 1 := by unfold wrap64; omega
      by_cases ha : (0 ≤ s.f1 ∧ s.f1 < 1099511627776) ∧ (0 ≤ s.f0 ∧ s.f0 < 1099511627776)
      · obtain ⟨⟨a1, a2⟩, a3, a4⟩ := ha
        have hi1 : clock_instant.f s.f1 = some true := by unfold clock_instant.f; rw [if_pos a1]; simp [a2]
        have hi0 : clock_instant.f s.f0 = some true := by unfold clock_instant.f; rw [if_pos a3]; simp [a4]
        refine Ev.step (f := fun k => clock_Check.j1 k last l (l.length : Int) (i : Int) false s.f0 s.f1) (fun k => ?_) ?_
        · simp only [clock_Check.l0]
          rw [if_pos (by omega), if_pos (by omega), if_pos (by omega), hrd, hi1]
          simp only [Option.bind_some, if_pos]
          rw [hi0]
          rfl
        · have hc : chk last (s :: l.drop (i + 1)) = (if s.f0 ≤ last then 9 else if s.f0 = mx (last + 1) s.f1 then chk s.f0 (l.drop (i + 1)) else 8) := by
            rw [chk, if_pos ⟨⟨a1, a2⟩, a3, a4⟩]
          rw [hc]
          by_cases b1 : s.f0 ≤ last
          · rw [if_pos b1]
            refine Ev.step (f := fun _ => some 9) (fun k => ?_) (Ev.now _)
            simp only [clock_Check.j1]
            rw [if_neg (by decide), if_pos b1]
          · rw [if_neg b1]
            by_cases b2 : s.f0 = mx (last + 1) s.f1
            · rw [if_pos b2]
              refine Ev.step (fun k => ?_) (ih (i + 1) s.f0 (by omega) (by omega) a3 a4)
              simp only [clock_Check.j1]
              rw [if_neg (by decide), if_neg b1, hw, if_pos b2, wrap_up (by omega)]
            · rw [if_neg b2]
              refine Ev.step (f := fun _ => some 8) (fun k => ?_) (Ev.now _)
              simp only [clock_Check.j1]
              rw [if_neg (by decide), if_neg b1, hw, if_neg b2]
      · have hc : chk last (s :: l.drop (i + 1)) = 6 := by rw [chk, if_neg ha]
        rw [hc]
        refine Ev.step (f := fun k => clock_Check.j1 k last l (l.length : Int) (i : Int) true s.f0 s.f1) (fun k => ?_) ?_
        · simp only [clock_Check.l0]
          rw [if_pos (by omega), if_pos (by omega), if_pos (by omega), hrd]
          unfold clock_instant.f
          by_cases a1 : s.f1 ≥ 0
          · by_cases a2 : s.f1 < 1099511627776
            · by_cases a3 : s.f0 ≥ 0
              · have a4 : ¬ s.f0 < 1099511627776 := fun h => ha ⟨⟨a1, a2⟩, a3, h⟩
                simp [a1, a2, a3, a4]
              · simp [a1, a2, a3]
            · simp [a1, a2]
          · simp [a1]
        · refine Ev.step (f := fun _ => some 6) (fun k => ?_) (Ev.now _)
          simp only [clock_Check.j1]
          rw [if_pos trivial]
  refine Ev.congr (fun k => ?_) (key _ 0 0 rfl (by omega) (by omega) (by omega))
  unfold clock_Check.f
  rfl
end Go.Proofs.Ytaipdnlfhhadjaa.C
