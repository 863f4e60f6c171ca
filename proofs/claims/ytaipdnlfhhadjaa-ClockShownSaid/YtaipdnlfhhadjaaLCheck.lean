/-
  The plain laws behind ClockCheck and ClockSteps: Check, Steps and Latest answer as the reference's, for every list of stamps.
-/
import Derived.Test.YtaipdnlfhhadjaaLBase
import Derived.Test.YtaipdnlfhhadjaaLWorks
import Derived.Test.YtaipdnlfhhadjaaCx8
namespace Go.Proofs.Ytaipdnlfhhadjaa.C
open Go.RowKit Go.Proofs.YtaipdnlfhhadjaaW.PrintWords Go.Proofs.YtaipdnlfhhadjaaW.PrintLast Go.Proofs.YtaipdnlfhhadjaaW.PrintMore

/-- The first error of a list of stamps, the last time being 'last'. -/
def chk (last : Int) : List S34 → Int
  | [] => 0
  | s :: r => if (0 ≤ s.f1 ∧ s.f1 < 1099511627776) ∧ (0 ≤ s.f0 ∧ s.f0 < 1099511627776) then (if s.f0 ≤ last then 9 else if s.f0 = mx (last + 1) s.f1 then chk s.f0 r else 8) else 6

theorem check_ev (l : List S34) (hl : l.length < 4611686018427387904) : Ev (fun k => clock_Check.f k l) (chk 0 l) := by
  have key : ∀ d i last, l.length - i = d → i ≤ l.length → 0 ≤ last → last < 1099511627776 → Ev (fun k => clock_Check.l0 k last l (l.length : Int) (i : Int)) (chk last (l.drop i)) := by
    intro d
    induction d with
    | zero =>
      intro i last hd hi _ _
      rw [List.drop_eq_nil_of_le (by omega)]
      refine Ev.step (f := fun _ => some 0) (fun k => ?_) (Ev.now _)
      simp only [clock_Check.l0]
      rw [if_neg (by omega)]
    | succ d ih =>
      intro i last hd hi h0 h1
      rw [List.drop_eq_getElem_cons (by omega)]
      obtain ⟨s, hs⟩ : ∃ s, s = l[i]'(by omega) := ⟨_, rfl⟩
      rw [← hs]
      have hrd : rd_T34 l (i : Int) = s := by rw [rd34_get l i (by omega), hs]
      have hw : wrap64 (last + 1) = last + 1 := by unfold wrap64; omega
      by_cases ha : (0 ≤ s.f1 ∧ s.f1 < 1099511627776) ∧ (0 ≤ s.f0 ∧ s.f0 < 1099511627776)
      · obtain ⟨⟨a1, a2⟩, a3, a4⟩ := ha
        have hi1 : clock_instant.f s.f1 = some true := by unfold clock_instant.f; rw [if_pos a1]; simp [a2]
        have hi0 : clock_instant.f s.f0 = some true := by unfold clock_instant.f; rw [if_pos a3]; simp [a4]
        refine Ev.step (f := fun k => clock_Check.j1 k last l (l.length : Int) (i : Int) false s.f0 s.f1) (fun k => ?_) ?_
        · simp only [clock_Check.l0]
          rw [if_pos (by omega), if_pos (by omega), if_pos (by omega), hrd, hi1]
          simp only [Option.bind_some, if_pos]
          rw [hi0]
          rfl
        · have hc : chk last (s :: l.drop (i + 1)) = (if s.f0 ≤ last then 9 else if s.f0 = mx (last + 1) s.f1 then chk s.f0 (l.drop (i + 1)) else 8) := by
            rw [chk, if_pos ⟨⟨a1, a2⟩, a3, a4⟩]
          rw [hc]
          by_cases b1 : s.f0 ≤ last
          · rw [if_pos b1]
            refine Ev.step (f := fun _ => some 9) (fun k => ?_) (Ev.now _)
            simp only [clock_Check.j1]
            rw [if_neg (by decide), if_pos b1]
          · rw [if_neg b1]
            by_cases b2 : s.f0 = mx (last + 1) s.f1
            · rw [if_pos b2]
              refine Ev.step (fun k => ?_) (ih (i + 1) s.f0 (by omega) (by omega) a3 a4)
              simp only [clock_Check.j1]
              rw [if_neg (by decide), if_neg b1, hw, if_pos b2, wrap_up (by omega)]
            · rw [if_neg b2]
              refine Ev.step (f := fun _ => some 8) (fun k => ?_) (Ev.now _)
              simp only [clock_Check.j1]
              rw [if_neg (by decide), if_neg b1, hw, if_neg b2]
      · have hc : chk last (s :: l.drop (i + 1)) = 6 := by rw [chk, if_neg ha]
        rw [hc]
        refine Ev.step (f := fun k => clock_Check.j1 k last l (l.length : Int) (i : Int) true s.f0 s.f1) (fun k => ?_) ?_
        · simp only [clock_Check.l0]
          rw [if_pos (by omega), if_pos (by omega), if_pos (by omega), hrd]
          unfold clock_instant.f
          by_cases a1 : s.f1 ≥ 0
          · by_cases a2 : s.f1 < 1099511627776
            · by_cases a3 : s.f0 ≥ 0
              · have a4 : ¬ s.f0 < 1099511627776 := fun h => ha ⟨⟨a1, a2⟩, a3, h⟩
                simp [a1, a2, a3, a4]
              · simp [a1, a2, a3]
            · simp [a1, a2]
          · simp [a1]
        · refine Ev.step (f := fun _ => some 6) (fun k => ?_) (Ev.now _)
          simp only [clock_Check.j1]
          rw [if_pos trivial]
  refine Ev.congr (fun k => ?_) (key _ 0 0 rfl (by omega) (by omega) (by omega))
  unfold clock_Check.f
  rfl

theorem ref_check_ev (l : List S34) (hl : l.length < 4611686018427387904) : Ev (fun k => bitemporalref06_Check.f k l) (chk 0 l) := by
  have key : ∀ d i last, l.length - i = d → i ≤ l.length → 0 ≤ last → last < 1099511627776 → Ev (fun k => bitemporalref06_Check.l0 k last l (l.length : Int) (i : Int)) (chk last (l.drop i)) := by
    intro d
    induction d with
    | zero =>
      intro i last hd hi _ _
      rw [List.drop_eq_nil_of_le (by omega)]
      refine Ev.step (f := fun _ => some 0) (fun k => ?_) (Ev.now _)
      simp only [bitemporalref06_Check.l0]
      rw [if_neg (by omega)]
    | succ d ih =>
      intro i last hd hi h0 h1
      rw [List.drop_eq_getElem_cons (by omega)]
      obtain ⟨s, hs⟩ : ∃ s, s = l[i]'(by omega) := ⟨_, rfl⟩
      rw [← hs]
      have hrd : rd_T34 l (i : Int) = s := by rw [rd34_get l i (by omega), hs]
      have hw : wrap64 (last + 1) = last + 1 := by unfold wrap64; omega
      by_cases ha : (0 ≤ s.f1 ∧ s.f1 < 1099511627776) ∧ (0 ≤ s.f0 ∧ s.f0 < 1099511627776)
      · obtain ⟨⟨a1, a2⟩, a3, a4⟩ := ha
        have hi1 : bitemporalref06_Reading.f s.f1 = some true := by unfold bitemporalref06_Reading.f; rw [if_pos a1]; simp [a2]
        refine Ev.step (f := fun k => bitemporalref06_Check.j1 k last l (l.length : Int) (i : Int) false s.f0 s.f1) (fun k => ?_) ?_
        · simp only [bitemporalref06_Check.l0]
          rw [if_pos (by omega), if_pos (by omega), if_pos (by omega), hrd, hi1]
          simp only [Option.bind_some, if_pos]
          rw [if_neg (by omega), decide_eq_false (by omega)]
        · have hc : chk last (s :: l.drop (i + 1)) = (if s.f0 ≤ last then 9 else if s.f0 = mx (last + 1) s.f1 then chk s.f0 (l.drop (i + 1)) else 8) := by
            rw [chk, if_pos ⟨⟨a1, a2⟩, a3, a4⟩]
          rw [hc]
          by_cases b1 : s.f0 ≤ last
          · rw [if_pos b1]
            refine Ev.step (f := fun _ => some 9) (fun k => ?_) (Ev.now _)
            simp only [bitemporalref06_Check.j1]
            rw [if_neg (by decide), if_pos b1]
          · rw [if_neg b1]
            by_cases b2 : s.f0 = mx (last + 1) s.f1
            · rw [if_pos b2]
              refine Ev.step (fun k => ?_) (ih (i + 1) s.f0 (by omega) (by omega) a3 a4)
              simp only [bitemporalref06_Check.j1]
              rw [if_neg (by decide), if_neg b1, hw, if_pos b2, wrap_up (by omega)]
            · rw [if_neg b2]
              refine Ev.step (f := fun _ => some 8) (fun k => ?_) (Ev.now _)
              simp only [bitemporalref06_Check.j1]
              rw [if_neg (by decide), if_neg b1, hw, if_neg b2]
      · have hc : chk last (s :: l.drop (i + 1)) = 6 := by rw [chk, if_neg ha]
        rw [hc]
        refine Ev.step (f := fun k => bitemporalref06_Check.j1 k last l (l.length : Int) (i : Int) true s.f0 s.f1) (fun k => ?_) ?_
        · simp only [bitemporalref06_Check.l0]
          rw [if_pos (by omega), if_pos (by omega), if_pos (by omega), hrd]
          unfold bitemporalref06_Reading.f
          by_cases a1 : s.f1 ≥ 0
          · by_cases a2 : s.f1 < 1099511627776
            · by_cases a3 : s.f0 < 0
              · simp [a1, a2, a3]
              · have a4 : s.f0 ≥ 1099511627776 := by
                  by_cases h : s.f0 < 1099511627776
                  · exact absurd ⟨⟨a1, a2⟩, by omega, h⟩ ha
                  · omega
                simp [a1, a2, a3, a4]
            · simp [a1, a2]
          · simp [a1]
        · refine Ev.step (f := fun _ => some 6) (fun k => ?_) (Ev.now _)
          simp only [bitemporalref06_Check.j1]
          rw [if_pos trivial]
  refine Ev.congr (fun k => ?_) (key _ 0 0 rfl (by omega) (by omega) (by omega))
  unfold bitemporalref06_Check.f
  rfl

theorem check_law (l : List S34) (hl : l.length * 16 ≤ 140737488351232) (_hw : ∀ s ∈ l, (Lit.int .i64 s.f0).wf = true ∧ (Lit.int .i64 s.f1).wf = true) : ∃ k, bitemporallaw06_ClockCheck.f k l = some true := by
  obtain ⟨K1, h1⟩ := check_ev l (by omega)
  obtain ⟨K2, h2⟩ := ref_check_ev l (by omega)
  obtain ⟨K3, h3⟩ := works_ev
  refine ⟨K1 + K2 + K3, ?_⟩
  have e1 := h1 (K1 + K2 + K3) (by omega)
  have e2 := h2 (K1 + K2 + K3) (by omega)
  have e3 := h3 (K1 + K2 + K3) (by omega)
  dsimp only at e1 e2
  unfold bitemporallaw06_ClockCheck.f
  rw [e1, e2, e3]
  simp

/-! Steps: both loops are one. -/
theorem steps_eq : ∀ k x0 x3 x4, clock_Steps.l0 k x0 x3 x4 = bitemporalref06_Steps.l0 k x0 x3 x4
  | 0, _, _, _ => rfl
  | k + 1, x0, x3, x4 => by
    simp only [clock_Steps.l0, bitemporalref06_Steps.l0, steps_eq k]
theorem steps_ev (l : List S34) (hl : l.length * 16 ≤ 140737488351232) : ∃ r, r.length ≤ l.length ∧ Ev (fun k => clock_Steps.f k l) r ∧ Ev (fun k => bitemporalref06_Steps.f k l) r := by
  have key : ∀ d i (acc : List Int), l.length - i = d → 1 ≤ i → acc.length < i → ∃ r : List Int, r.length ≤ max l.length acc.length ∧ Ev (fun k => clock_Steps.l0 k l acc (i : Int)) r := by
    intro d
    induction d with
    | zero =>
      intro i acc hd hi ha
      refine ⟨acc, by omega, Ev.step (f := fun _ => some acc) (fun k => ?_) (Ev.now _)⟩
      simp only [clock_Steps.l0]
      rw [if_neg (by omega)]
    | succ d ih =>
      intro i acc hd hi ha
      obtain ⟨j, rfl⟩ : ∃ j, i = j + 1 := ⟨i - 1, by omega⟩
      by_cases hc : (rd_T34 l ((j + 1 : Nat) : Int)).f1 < (rd_T34 l (j : Int)).f1
      · obtain ⟨r, hr, he⟩ := ih (j + 1 + 1) (acc ++ [((j + 1 : Nat) : Int)]) (by omega) (by omega) (by simp; omega)
        refine ⟨r, by simp at hr; omega, Ev.step (fun k => ?_) he⟩
        simp only [clock_Steps.l0]
        rw [if_pos (by omega), if_pos (by omega), wrap_down (by omega), if_pos (by omega), if_pos (by omega), if_pos hc, if_pos (by omega), wrap_up (by omega)]
      · obtain ⟨r, hr, he⟩ := ih (j + 1 + 1) acc (by omega) (by omega) (by omega)
        refine ⟨r, by omega, Ev.step (fun k => ?_) he⟩
        simp only [clock_Steps.l0]
        rw [if_pos (by omega), if_pos (by omega), wrap_down (by omega), if_pos (by omega), if_pos (by omega), if_neg hc, wrap_up (by omega)]
  obtain ⟨r, hr, he⟩ := key _ 1 [] rfl (by omega) (by simp)
  refine ⟨r, by simpa using hr, Ev.congr (fun k => ?_) he, Ev.congr (fun k => ?_) he⟩
  · unfold clock_Steps.f
    rfl
  · unfold bitemporalref06_Steps.f
    exact (steps_eq k l [] 1).symm

/-! Latest: the last stamp up to a time, among the first i. -/
def lat (l : List S34) (t : Int) : Nat → Int × Int × Bool
  | 0 => (0, 0, false)
  | i + 1 => if (rd_T34 l (i : Int)).f0 ≤ t then ((rd_T34 l (i : Int)).f0, (rd_T34 l (i : Int)).f1, true) else lat l t i
theorem latest_ev (l : List S34) (t : Int) (hl : l.length < 4611686018427387904) : Ev (fun k => clock_Latest.f k l t) (lat l t l.length) := by
  have key : ∀ i, i ≤ l.length → Ev (fun k => clock_Latest.l0 k l t ((i : Int) - 1)) (lat l t i) := by
    intro i
    induction i with
    | zero =>
      intro _
      refine Ev.step (f := fun _ => some (0, 0, false)) (fun k => ?_) (Ev.now _)
      simp only [clock_Latest.l0]
      rw [if_neg (by omega)]
    | succ i ih =>
      intro hi
      have e1 : (((i + 1 : Nat) : Int) - 1) = (i : Int) := by omega
      rw [e1, lat]
      by_cases hc : (rd_T34 l (i : Int)).f0 ≤ t
      · rw [if_pos hc]
        refine Ev.step (f := fun _ => some ((rd_T34 l (i : Int)).f0, (rd_T34 l (i : Int)).f1, true)) (fun k => ?_) (Ev.now _)
        simp only [clock_Latest.l0]
        rw [if_pos (by omega), if_pos (by omega), if_pos (by omega), if_pos hc]
      · rw [if_neg hc]
        refine Ev.step (fun k => ?_) (ih (by omega))
        simp only [clock_Latest.l0]
        rw [if_pos (by omega), if_pos (by omega), if_pos (by omega), if_neg hc]
        have : wrap64 ((i : Int) - 1) = (i : Int) - 1 := by unfold wrap64; omega
        rw [this]
  refine Ev.congr (fun k => ?_) (key l.length (Nat.le_refl _))
  unfold clock_Latest.f
  have : wrap64 ((l.length : Int) - 1) = (l.length : Int) - 1 := by unfold wrap64; omega
  rw [this]
theorem ref_latest_ev (l : List S34) (t : Int) (hl : l.length < 4611686018427387904) : Ev (fun k => bitemporalref06_Latest.f k l t) (lat l t l.length) := by
  have key : ∀ d i, l.length - i = d → i ≤ l.length → Ev (fun k => bitemporalref06_Latest.l0 k t (lat l t i).2.2 l (l.length : Int) (i : Int) (lat l t i).1 (lat l t i).2.1) (lat l t l.length) := by
    intro d
    induction d with
    | zero =>
      intro i hd hi
      obtain rfl : i = l.length := by omega
      refine Ev.step (f := fun _ => some (lat l t l.length)) (fun k => ?_) (Ev.now _)
      simp only [bitemporalref06_Latest.l0]
      rw [if_neg (by omega)]
    | succ d ih =>
      intro i hd hi
      have h := ih (i + 1) (by omega) (by omega)
      by_cases hc : (rd_T34 l (i : Int)).f0 ≤ t
      · rw [lat, if_pos hc] at h
        refine Ev.step (fun k => ?_) h
        simp only [bitemporalref06_Latest.l0]
        rw [if_pos (by omega), if_pos (by omega), if_pos (by omega), if_pos hc, wrap_up (by omega)]
      · rw [lat, if_neg hc] at h
        refine Ev.step (fun k => ?_) h
        simp only [bitemporalref06_Latest.l0]
        rw [if_pos (by omega), if_pos (by omega), if_pos (by omega), if_neg hc, wrap_up (by omega)]
  refine Ev.congr (fun k => ?_) (key _ 0 rfl (by omega))
  unfold bitemporalref06_Latest.f
  rfl

theorem steps_law (l : List S34) (t : Int) (hl : l.length * 16 ≤ 140737488351232) (_hw : ∀ s ∈ l, (Lit.int .i64 s.f0).wf = true ∧ (Lit.int .i64 s.f1).wf = true) (_ht : (Lit.int .i64 t).wf = true) : ∃ k, bitemporallaw06_ClockSteps.f k l t = some true := by
  obtain ⟨r, hr, ⟨K1, h1⟩, K2, h2⟩ := steps_ev l hl
  obtain ⟨K3, h3⟩ := latest_ev l t (by omega)
  obtain ⟨K4, h4⟩ := ref_latest_ev l t (by omega)
  obtain ⟨K5, h5⟩ := ints_same r (by omega)
  obtain ⟨K6, h6⟩ := works_ev
  refine ⟨K1 + K2 + K3 + K4 + K5 + K6, ?_⟩
  have e1 := h1 (K1 + K2 + K3 + K4 + K5 + K6) (by omega)
  have e2 := h2 (K1 + K2 + K3 + K4 + K5 + K6) (by omega)
  have e3 := h3 (K1 + K2 + K3 + K4 + K5 + K6) (by omega)
  have e4 := h4 (K1 + K2 + K3 + K4 + K5 + K6) (by omega)
  have e5 := h5 (K1 + K2 + K3 + K4 + K5 + K6) (by omega)
  have e6 := h6 (K1 + K2 + K3 + K4 + K5 + K6) (by omega)
  dsimp only at e1 e2 e3 e4 e5
  unfold bitemporallaw06_ClockSteps.f
  rw [e1, e2, e3, e4]
  simp only [Option.bind_some]
  rw [e5, e6]
  simp
end Go.Proofs.Ytaipdnlfhhadjaa.C
