/-
  The plain law behind ClockShown: the periods that Shown joins are those of the reference, for every list of stamps and every reading.
-/
import Derived.Test.YtaipdnlfhhadjaaQLCheck
import Derived.Test.YtaipdnlfhhadjaaQCx10
namespace Go.Proofs.Ytaipdnlfhhadjaa.C
open Go.RowKit Go.Proofs.YtaipdnlfhhadjaaW.PrintWords Go.Proofs.YtaipdnlfhhadjaaW.PrintLast Go.Proofs.YtaipdnlfhhadjaaW.PrintMore
/-- The last period so far is valid and ends at 't' or before. -/
def EndsBy (xs : List S49) (t : Int) : Prop := ∀ m, xs.length = m + 1 → 0 ≤ (rd_T49 xs (m : Int)).f0 ∧ (rd_T49 xs (m : Int)).f0 < (rd_T49 xs (m : Int)).f1 ∧ (rd_T49 xs (m : Int)).f1 ≤ t
theorem rd49_snoc (xs : List S49) (p : S49) : rd_T49 (xs ++ [p]) (xs.length : Int) = p := by
  rw [rd49_get _ _ (by simp)]
  simp
theorem rd49_set (xs : List S49) (p : S49) (m : Nat) (h : m < xs.length) : rd_T49 (xs.set m p) (m : Int) = p := by
  rw [rd49_get _ _ (by simpa using h)]
  simp
theorem valid_f (a b : Int) : period_Valid.f a b = some (decide (0 ≤ a ∧ a < b ∧ b ≤ 1099511627776)) := by
  unfold period_Valid.f
  by_cases h1 : a ≥ 0
  · by_cases h2 : a < b
    · simp [h1, h2]
    · simp [h2]
  · simp [h1]
theorem merge_touch {a b c d : Int} (h1 : 0 ≤ a) (h2 : a < b) (h3 : b = c) (h4 : c < d) (h5 : d ≤ 1099511627776) : period_Merge.f a b c d = some (a, d, true) := by
  have v1 : period_Valid.f a b = some true := by rw [valid_f]; simp; omega
  have v2 : period_Valid.f c d = some true := by rw [valid_f]; simp; omega
  have m1 : mn a c = a := by unfold mn; rw [if_neg (by omega)]
  have m2 : mx b d = d := by unfold mx; rw [if_pos (by omega)]
  have h6 : ¬ c < b := by omega
  have h7 : a < d := by omega
  unfold period_Merge.f period_Overlaps.f period_Adjacent.f
  rw [v1, v2, m1, m2]
  simp [h3, h7]
theorem merge_apart {a b c d : Int} (h1 : 0 ≤ a) (h2 : a < b) (h3 : b < c) (h4 : c < d) (h5 : d ≤ 1099511627776) : period_Merge.f a b c d = some (0, 0, false) := by
  have v1 : period_Valid.f a b = some true := by rw [valid_f]; simp; omega
  have v2 : period_Valid.f c d = some true := by rw [valid_f]; simp; omega
  have h6 : ¬ c < b := by omega
  have h7 : a < d := by omega
  have h8 : ¬ b = c := by omega
  have h9 : ¬ d = a := by omega
  unfold period_Merge.f period_Overlaps.f period_Adjacent.f
  rw [v1, v2]
  simp [h6, h7, h8, h9]
/-- Over such periods 'add' is the reference's way to join. -/
theorem add_ref {xs : List S49} {p0 p1 : Int} (h : EndsBy xs p0) (_h0 : 0 ≤ p0) (h1 : p0 < p1) (h2 : p1 ≤ 1099511627776) : addF xs p0 p1 = refAdd xs p0 p1 := by
  unfold addF refAdd
  cases hm : xs.length with
  | zero => rfl
  | succ m =>
    obtain ⟨a1, a2, a3⟩ := h m hm
    by_cases he : (rd_T49 xs (m : Int)).f1 = p0
    · simp only [merge_touch a1 a2 he h1 h2, if_pos he]
    · simp only [merge_apart a1 a2 (by omega : (rd_T49 xs (m : Int)).f1 < p0) h1 h2, if_neg he]
theorem add_ends {xs : List S49} {p0 p1 : Int} (h : EndsBy xs p0) (h0 : 0 ≤ p0) (h1 : p0 < p1) : EndsBy (refAdd xs p0 p1) p1 := by
  intro m hm
  unfold refAdd at hm ⊢
  cases hx : xs.length with
  | zero =>
    obtain rfl : xs = [] := List.eq_nil_of_length_eq_zero hx
    simp at hm
    subst hm
    exact ⟨h0, h1, Int.le_refl _⟩
  | succ n =>
    rw [hx] at hm
    obtain ⟨a1, a2, a3⟩ := h n hx
    by_cases he : (rd_T49 xs (n : Int)).f1 = p0
    · simp only [if_pos he] at hm ⊢
      rw [List.length_set] at hm
      obtain rfl : m = n := by omega
      rw [rd49_set _ _ _ (by omega)]
      exact ⟨a1, (by show (rd_T49 xs (m : Int)).f0 < p1; omega), Int.le_refl _⟩
    · simp only [if_neg he] at hm ⊢
      rw [List.length_append, List.length_singleton] at hm
      obtain rfl : m = xs.length := by omega
      rw [rd49_snoc]
      exact ⟨h0, h1, Int.le_refl _⟩
theorem ends_mono {xs : List S49} {s t : Int} (h : EndsBy xs s) (hst : s ≤ t) : EndsBy xs t := fun m hm => by
  obtain ⟨a1, a2, a3⟩ := h m hm
  exact ⟨a1, a2, by omega⟩
/-- Valid stamps are few: their times ascend below 2^40. -/
theorem chk_few : ∀ (l : List S34) (last : Int), chk last l = 0 → 0 ≤ last → last < 1099511627776 → (l.length : Int) + last < 1099511627776
  | [], last, _, _, h1 => by simpa using h1
  | b :: rest, last, hk, h0, h1 => by
    rw [chk] at hk
    split at hk
    · rename_i hb
      obtain ⟨⟨b1, b2⟩, b3, b4⟩ := hb
      split at hk
      · exact absurd hk (by decide)
      · rename_i hlt
        split at hk
        · have := chk_few rest b.f0 hk b3 b4
          rw [List.length_cons]
          omega
        · exact absurd hk (by decide)
    · exact absurd hk (by decide)
theorem instant_f (a : Int) : clock_instant.f a = some (decide (0 ≤ a ∧ a < 1099511627776)) := by
  unfold clock_instant.f
  by_cases h : a ≥ 0
  · simp [h]
  · simp [h]
/-- What Shown answers. -/
def shownL (l : List S34) (wall : Int) : List S49 := if chk 0 l = 0 then (if 0 ≤ wall ∧ wall < 1099511627776 then shownRun wall l ⟨0, 0⟩ [] else []) else []
theorem shown_ev (l : List S34) (wall : Int) (hl : l.length < 4611686018427387904) : Ev (fun k => clock_Shown.f k l wall) (shownL l wall) := by
  obtain ⟨K, h⟩ := check_ev l hl
  refine ⟨K, fun k hk => ?_⟩
  have e := h k hk
  dsimp only at e
  show clock_Shown.f k l wall = _
  unfold clock_Shown.f shownL
  rw [e, instant_f]
  by_cases h1 : chk 0 l = 0
  · have hf := chk_few l 0 h1 (by omega) (by omega)
    by_cases h2 : 0 ≤ wall ∧ wall < 1099511627776
    · simp only [Option.bind_some, if_pos h1, decide_eq_true h2, if_true]
      rw [if_pos (by omega), if_pos h2]
    · simp [h1, h2]
  · simp [h1]
theorem run_len (wall : Int) : ∀ (rest : List S34) (a : S34) (out : List S49), (shownRun wall rest a out).length ≤ out.length + rest.length + 1
  | [], a, out => by
    unfold shownRun
    split
    · have := addF_len out a.f0 1099511627776
      simp only [List.length_nil]
      omega
    · simp
  | b :: rest, a, out => by
    unfold shownRun
    refine Nat.le_trans (run_len wall rest b _) ?_
    split
    · have := addF_len out a.f0 b.f0
      simp only [List.length_cons]
      omega
    · simp only [List.length_cons]
      omega
theorem shownL_len (l : List S34) (wall : Int) : (shownL l wall).length ≤ l.length + 1 := by
  unfold shownL
  split
  · split
    · have := run_len wall l ⟨0, 0⟩ []
      simpa using this
    · simp
  · simp
end Go.Proofs.Ytaipdnlfhhadjaa.C
