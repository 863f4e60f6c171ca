/-
  The relation of two periods as a plain function, and what Relation and Holds of both sides answer.
-/
import Derived.Test.YtoemcdkopnclbaaUAx3
import Derived.Test.YtoemcdkopnclbaaUAx4
namespace Go.Proofs.Ytoemcdkopnclbaa.A
open Go.RowKit Go.Proofs.YtoemcdkopnclbaaW.PrintWords Go.Proofs.YtoemcdkopnclbaaW.PrintLast Go.Proofs.YtoemcdkopnclbaaW.PrintMore
set_option linter.unusedVariables false
set_option linter.unusedSimpArgs false
def VP (a b : Int) : Prop := 0 ≤ a ∧ a < b ∧ b ≤ 1099511627776
instance (a b : Int) : Decidable (VP a b) := by unfold VP; infer_instance
def relI (a b c d : Int) : Int :=
 if b < c then 0 else if b = c then 1 else if d < a then 12 else if d = a then 11 else if a = c ∧ b = d then 6 else if a = c ∧ b < d then 3 else if a = c then 9
 else if b = d ∧ c < a then 5 else if b = d then 7 else if a < c ∧ d < b then 8 else if c < a ∧ b < d then 4 else if a < c then 2 else 10
theorem valid_f (a b : Int) : period_Valid.f a b = some (decide (VP a b)) := by
 unfold period_Valid.f
 by_cases h1 : a ≥ 0
 ·by_cases h2 : a < b
  ·rw [if_pos h1, if_pos h2]; congr 1; apply decide_eq_decide.2; unfold VP; omega
  ·rw [if_pos h1, if_neg h2, decide_eq_false (show ¬ VP a b from fun h => h2 h.2.1)]
 ·rw [if_neg h1, decide_eq_false (show ¬ VP a b from fun h => h1 h.1)]
theorem valid_r (a b : Int) : bitemporalref01_Valid.f a b = some (decide (VP a b)) := valid_f a b
theorem rel_j (k : Nat) (a b c d : Int) : allen_Relation.j0 (k + 5) false a b c d = some (relI a b c d, true) := by
 show allen_Relation.j0 (k + 4 + 1) false a b c d = _
 rw [allen_Relation.j0, if_neg (show ¬ (false = true) by decide)]
 unfold relI
 by_cases h1 : b < c
 ·rw [if_pos h1, if_pos h1]
 rw [if_neg h1, if_neg h1]
 by_cases h2 : b = c
 ·rw [if_pos h2, if_pos h2]
 rw [if_neg h2, if_neg h2]
 by_cases h3 : d < a
 ·rw [if_pos h3, if_pos h3]
 rw [if_neg h3, if_neg h3]
 by_cases h4 : d = a
 ·rw [if_pos h4, if_pos h4]
 rw [if_neg h4, if_neg h4]
 by_cases h5 : a = c
 ·subst h5
  by_cases h6 : b = d
  ·subst h6; simp
  ·rw [if_neg (by simp [h6]), if_pos rfl, if_neg (by simp [h6])]
   rw [show k + 4 = k + 3 + 1 from rfl, allen_Relation.j1]
   by_cases h7 : b < d
   ·rw [if_pos (decide_eq_true h7), if_pos ⟨rfl, h7⟩]
   ·rw [if_neg (by simpa using h7), if_pos rfl, if_neg (by simp [h7]), if_pos rfl]
 ·rw [if_neg (by simp [h5]), if_neg h5, if_neg (by simp [h5]), if_neg (by simp [h5]), if_neg h5]
  rw [show k + 4 = k + 3 + 1 from rfl, allen_Relation.j1]
  rw [if_neg (show ¬ (false = true) by decide), if_neg h5]
  by_cases h6 : b = d
  ·subst h6
   rw [if_pos rfl]
   rw [show k + 3 = k + 2 + 1 from rfl, allen_Relation.j2]
   by_cases h7 : c < a
   ·rw [if_pos (decide_eq_true (show a > c from h7)), if_pos ⟨rfl, h7⟩]
   ·rw [if_neg (by simpa using h7), if_pos rfl, if_neg (by simp [h7]), if_pos rfl]
  ·rw [if_neg h6, if_neg (by simp [h6]), if_neg h6]
   rw [show k + 3 = k + 2 + 1 from rfl, allen_Relation.j2]
   rw [if_neg (show ¬ (false = true) by decide), if_neg h6]
   by_cases h7 : a < c
   ·rw [if_pos h7]
    rw [show k + 2 = k + 1 + 1 from rfl, allen_Relation.j3]
    by_cases h8 : d < b
    ·rw [if_pos (decide_eq_true h8), if_pos ⟨h7, h8⟩]
    ·rw [if_neg (by simpa using h8), if_neg (by omega), if_neg (by simp [h8]), if_neg (by omega), if_pos h7]
     rw [allen_Relation.j4]
     rw [if_neg (show ¬ (false = true) by decide), if_pos h7]
   ·rw [if_neg h7]
    rw [show k + 2 = k + 1 + 1 from rfl, allen_Relation.j3]
    by_cases h8 : c < a
    ·rw [if_neg (show ¬ (false = true) by decide), if_pos h8, if_neg (fun h => h7 h.1)]
     rw [allen_Relation.j4]
     by_cases h9 : b < d
     ·rw [if_pos (decide_eq_true h9), if_pos ⟨h8, h9⟩]
     ·rw [if_neg (by simpa using h9), if_neg h7, if_neg (by simp [h9]), if_neg h7]
    ·omega
theorem rel_f (k : Nat) (hk : 6 ≤ k) (a b c d : Int) : allen_Relation.f k a b c d = some (if VP a b ∧ VP c d then (relI a b c d, true) else (0, false)) := by
 obtain ⟨k, rfl⟩ : ∃ m, k = m + 5 + 1 := ⟨k - 6, by omega⟩
 unfold allen_Relation.f
 rw [valid_f, Option.bind_some]
 by_cases h1 : VP a b
 ·rw [if_pos (decide_eq_true h1), valid_f, Option.bind_some]
  by_cases h2 : VP c d
  ·rw [decide_eq_true h2, if_pos ⟨h1, h2⟩]
   exact rel_j (k + 1) a b c d
  ·rw [decide_eq_false h2, if_neg (fun h => h2 h.2)]
   rw [allen_Relation.j0]
   rfl
 ·rw [if_neg (by simpa using h1), if_neg (fun h => h1 h.1)]
  rw [allen_Relation.j0]
  rfl
theorem relI_spec (a b c d : Int) (h1 : a < b) (h2 : c < d) : ((b < c) ∧ relI a b c d = 0) ∨ ((b = c) ∧ relI a b c d = 1) ∨ ((a < c ∧ c < b ∧ b < d) ∧ relI a b c d = 2) ∨ ((a = c ∧ b < d) ∧ relI a b c d = 3) ∨ ((c < a ∧ b < d) ∧ relI a b c d = 4) ∨ ((b = d ∧ c < a) ∧ relI a b c d = 5) ∨ ((a = c ∧ b = d) ∧ relI a b c d = 6) ∨ ((b = d ∧ a < c) ∧ relI a b c d = 7) ∨ ((a < c ∧ d < b) ∧ relI a b c d = 8) ∨ ((a = c ∧ d < b) ∧ relI a b c d = 9) ∨ ((c < a ∧ a < d ∧ d < b) ∧ relI a b c d = 10) ∨ ((d = a) ∧ relI a b c d = 11) ∨ ((d < a) ∧ relI a b c d = 12) := by
 obtain ⟨x, hx⟩ : ∃ x, x = relI a b c d := ⟨_, rfl⟩
 rw [← hx]
 unfold relI at hx
 by_cases e0 : b < c
 ·rw [if_pos e0] at hx; exact Or.inl ⟨(show b < c by omega), hx⟩
 rw [if_neg e0] at hx
 by_cases e1 : b = c
 ·rw [if_pos e1] at hx; exact Or.inr (Or.inl ⟨(show b = c by omega), hx⟩)
 rw [if_neg e1] at hx
 by_cases e2 : d < a
 ·rw [if_pos e2] at hx; exact Or.inr (Or.inr (Or.inr (Or.inr (Or.inr (Or.inr (Or.inr (Or.inr (Or.inr (Or.inr (Or.inr (Or.inr (⟨(show d < a by omega), hx⟩))))))))))))
 rw [if_neg e2] at hx
 by_cases e3 : d = a
 ·rw [if_pos e3] at hx; exact Or.inr (Or.inr (Or.inr (Or.inr (Or.inr (Or.inr (Or.inr (Or.inr (Or.inr (Or.inr (Or.inr (Or.inl ⟨(show d = a by omega), hx⟩)))))))))))
 rw [if_neg e3] at hx
 by_cases e4 : a = c ∧ b = d
 ·rw [if_pos e4] at hx; exact Or.inr (Or.inr (Or.inr (Or.inr (Or.inr (Or.inr (Or.inl ⟨(show a = c ∧ b = d by omega), hx⟩))))))
 rw [if_neg e4] at hx
 by_cases e5 : a = c ∧ b < d
 ·rw [if_pos e5] at hx; exact Or.inr (Or.inr (Or.inr (Or.inl ⟨(show a = c ∧ b < d by omega), hx⟩)))
 rw [if_neg e5] at hx
 by_cases e6 : a = c
 ·rw [if_pos e6] at hx; exact Or.inr (Or.inr (Or.inr (Or.inr (Or.inr (Or.inr (Or.inr (Or.inr (Or.inr (Or.inl ⟨(show a = c ∧ d < b by omega), hx⟩)))))))))
 rw [if_neg e6] at hx
 by_cases e7 : b = d ∧ c < a
 ·rw [if_pos e7] at hx; exact Or.inr (Or.inr (Or.inr (Or.inr (Or.inr (Or.inl ⟨(show b = d ∧ c < a by omega), hx⟩)))))
 rw [if_neg e7] at hx
 by_cases e8 : b = d
 ·rw [if_pos e8] at hx; exact Or.inr (Or.inr (Or.inr (Or.inr (Or.inr (Or.inr (Or.inr (Or.inl ⟨(show b = d ∧ a < c by omega), hx⟩)))))))
 rw [if_neg e8] at hx
 by_cases e9 : a < c ∧ d < b
 ·rw [if_pos e9] at hx; exact Or.inr (Or.inr (Or.inr (Or.inr (Or.inr (Or.inr (Or.inr (Or.inr (Or.inl ⟨(show a < c ∧ d < b by omega), hx⟩))))))))
 rw [if_neg e9] at hx
 by_cases e10 : c < a ∧ b < d
 ·rw [if_pos e10] at hx; exact Or.inr (Or.inr (Or.inr (Or.inr (Or.inl ⟨(show c < a ∧ b < d by omega), hx⟩))))
 rw [if_neg e10] at hx
 by_cases e11 : a < c
 ·rw [if_pos e11] at hx; exact Or.inr (Or.inr (Or.inl ⟨(show a < c ∧ c < b ∧ b < d by omega), hx⟩))
 rw [if_neg e11] at hx
 exact Or.inr (Or.inr (Or.inr (Or.inr (Or.inr (Or.inr (Or.inr (Or.inr (Or.inr (Or.inr (Or.inl ⟨(show c < a ∧ a < d ∧ d < b by omega), hx⟩))))))))))
theorem relI_range (a b c d : Int) : 0 ≤ relI a b c d ∧ relI a b c d < 13 := by
 obtain ⟨x, hx⟩ : ∃ x, x = relI a b c d := ⟨_, rfl⟩
 rw [← hx]
 unfold relI at hx
 by_cases e0 : b < c
 ·rw [if_pos e0] at hx; omega
 rw [if_neg e0] at hx
 by_cases e1 : b = c
 ·rw [if_pos e1] at hx; omega
 rw [if_neg e1] at hx
 by_cases e2 : d < a
 ·rw [if_pos e2] at hx; omega
 rw [if_neg e2] at hx
 by_cases e3 : d = a
 ·rw [if_pos e3] at hx; omega
 rw [if_neg e3] at hx
 by_cases e4 : a = c ∧ b = d
 ·rw [if_pos e4] at hx; omega
 rw [if_neg e4] at hx
 by_cases e5 : a = c ∧ b < d
 ·rw [if_pos e5] at hx; omega
 rw [if_neg e5] at hx
 by_cases e6 : a = c
 ·rw [if_pos e6] at hx; omega
 rw [if_neg e6] at hx
 by_cases e7 : b = d ∧ c < a
 ·rw [if_pos e7] at hx; omega
 rw [if_neg e7] at hx
 by_cases e8 : b = d
 ·rw [if_pos e8] at hx; omega
 rw [if_neg e8] at hx
 by_cases e9 : a < c ∧ d < b
 ·rw [if_pos e9] at hx; omega
 rw [if_neg e9] at hx
 by_cases e10 : c < a ∧ b < d
 ·rw [if_pos e10] at hx; omega
 rw [if_neg e10] at hx
 by_cases e11 : a < c
 ·rw [if_pos e11] at hx; omega
 rw [if_neg e11] at hx
 omega
theorem relI_0 (a b c d : Int) (h1 : a < b) (h2 : c < d) : relI a b c d = 0 ↔ b < c := by
 rcases relI_spec a b c d h1 h2 with ⟨h, e⟩ | ⟨h, e⟩ | ⟨h, e⟩ | ⟨h, e⟩ | ⟨h, e⟩ | ⟨h, e⟩ | ⟨h, e⟩ | ⟨h, e⟩ | ⟨h, e⟩ | ⟨h, e⟩ | ⟨h, e⟩ | ⟨h, e⟩ | ⟨h, e⟩ <;> omega
theorem relI_1 (a b c d : Int) (h1 : a < b) (h2 : c < d) : relI a b c d = 1 ↔ b = c := by
 rcases relI_spec a b c d h1 h2 with ⟨h, e⟩ | ⟨h, e⟩ | ⟨h, e⟩ | ⟨h, e⟩ | ⟨h, e⟩ | ⟨h, e⟩ | ⟨h, e⟩ | ⟨h, e⟩ | ⟨h, e⟩ | ⟨h, e⟩ | ⟨h, e⟩ | ⟨h, e⟩ | ⟨h, e⟩ <;> omega
theorem relI_2 (a b c d : Int) (h1 : a < b) (h2 : c < d) : relI a b c d = 2 ↔ a < c ∧ c < b ∧ b < d := by
 rcases relI_spec a b c d h1 h2 with ⟨h, e⟩ | ⟨h, e⟩ | ⟨h, e⟩ | ⟨h, e⟩ | ⟨h, e⟩ | ⟨h, e⟩ | ⟨h, e⟩ | ⟨h, e⟩ | ⟨h, e⟩ | ⟨h, e⟩ | ⟨h, e⟩ | ⟨h, e⟩ | ⟨h, e⟩ <;> omega
theorem relI_3 (a b c d : Int) (h1 : a < b) (h2 : c < d) : relI a b c d = 3 ↔ a = c ∧ b < d := by
 rcases relI_spec a b c d h1 h2 with ⟨h, e⟩ | ⟨h, e⟩ | ⟨h, e⟩ | ⟨h, e⟩ | ⟨h, e⟩ | ⟨h, e⟩ | ⟨h, e⟩ | ⟨h, e⟩ | ⟨h, e⟩ | ⟨h, e⟩ | ⟨h, e⟩ | ⟨h, e⟩ | ⟨h, e⟩ <;> omega
theorem relI_4 (a b c d : Int) (h1 : a < b) (h2 : c < d) : relI a b c d = 4 ↔ c < a ∧ b < d := by
 rcases relI_spec a b c d h1 h2 with ⟨h, e⟩ | ⟨h, e⟩ | ⟨h, e⟩ | ⟨h, e⟩ | ⟨h, e⟩ | ⟨h, e⟩ | ⟨h, e⟩ | ⟨h, e⟩ | ⟨h, e⟩ | ⟨h, e⟩ | ⟨h, e⟩ | ⟨h, e⟩ | ⟨h, e⟩ <;> omega
theorem relI_5 (a b c d : Int) (h1 : a < b) (h2 : c < d) : relI a b c d = 5 ↔ b = d ∧ c < a := by
 rcases relI_spec a b c d h1 h2 with ⟨h, e⟩ | ⟨h, e⟩ | ⟨h, e⟩ | ⟨h, e⟩ | ⟨h, e⟩ | ⟨h, e⟩ | ⟨h, e⟩ | ⟨h, e⟩ | ⟨h, e⟩ | ⟨h, e⟩ | ⟨h, e⟩ | ⟨h, e⟩ | ⟨h, e⟩ <;> omega
theorem relI_6 (a b c d : Int) (h1 : a < b) (h2 : c < d) : relI a b c d = 6 ↔ a = c ∧ b = d := by
 rcases relI_spec a b c d h1 h2 with ⟨h, e⟩ | ⟨h, e⟩ | ⟨h, e⟩ | ⟨h, e⟩ | ⟨h, e⟩ | ⟨h, e⟩ | ⟨h, e⟩ | ⟨h, e⟩ | ⟨h, e⟩ | ⟨h, e⟩ | ⟨h, e⟩ | ⟨h, e⟩ | ⟨h, e⟩ <;> omega
theorem relI_7 (a b c d : Int) (h1 : a < b) (h2 : c < d) : relI a b c d = 7 ↔ b = d ∧ a < c := by
 rcases relI_spec a b c d h1 h2 with ⟨h, e⟩ | ⟨h, e⟩ | ⟨h, e⟩ | ⟨h, e⟩ | ⟨h, e⟩ | ⟨h, e⟩ | ⟨h, e⟩ | ⟨h, e⟩ | ⟨h, e⟩ | ⟨h, e⟩ | ⟨h, e⟩ | ⟨h, e⟩ | ⟨h, e⟩ <;> omega
theorem relI_8 (a b c d : Int) (h1 : a < b) (h2 : c < d) : relI a b c d = 8 ↔ a < c ∧ d < b := by
 rcases relI_spec a b c d h1 h2 with ⟨h, e⟩ | ⟨h, e⟩ | ⟨h, e⟩ | ⟨h, e⟩ | ⟨h, e⟩ | ⟨h, e⟩ | ⟨h, e⟩ | ⟨h, e⟩ | ⟨h, e⟩ | ⟨h, e⟩ | ⟨h, e⟩ | ⟨h, e⟩ | ⟨h, e⟩ <;> omega
theorem relI_9 (a b c d : Int) (h1 : a < b) (h2 : c < d) : relI a b c d = 9 ↔ a = c ∧ d < b := by
 rcases relI_spec a b c d h1 h2 with ⟨h, e⟩ | ⟨h, e⟩ | ⟨h, e⟩ | ⟨h, e⟩ | ⟨h, e⟩ | ⟨h, e⟩ | ⟨h, e⟩ | ⟨h, e⟩ | ⟨h, e⟩ | ⟨h, e⟩ | ⟨h, e⟩ | ⟨h, e⟩ | ⟨h, e⟩ <;> omega
theorem relI_10 (a b c d : Int) (h1 : a < b) (h2 : c < d) : relI a b c d = 10 ↔ c < a ∧ a < d ∧ d < b := by
 rcases relI_spec a b c d h1 h2 with ⟨h, e⟩ | ⟨h, e⟩ | ⟨h, e⟩ | ⟨h, e⟩ | ⟨h, e⟩ | ⟨h, e⟩ | ⟨h, e⟩ | ⟨h, e⟩ | ⟨h, e⟩ | ⟨h, e⟩ | ⟨h, e⟩ | ⟨h, e⟩ | ⟨h, e⟩ <;> omega
theorem relI_11 (a b c d : Int) (h1 : a < b) (h2 : c < d) : relI a b c d = 11 ↔ d = a := by
 rcases relI_spec a b c d h1 h2 with ⟨h, e⟩ | ⟨h, e⟩ | ⟨h, e⟩ | ⟨h, e⟩ | ⟨h, e⟩ | ⟨h, e⟩ | ⟨h, e⟩ | ⟨h, e⟩ | ⟨h, e⟩ | ⟨h, e⟩ | ⟨h, e⟩ | ⟨h, e⟩ | ⟨h, e⟩ <;> omega
theorem relI_12 (a b c d : Int) (h1 : a < b) (h2 : c < d) : relI a b c d = 12 ↔ d < a := by
 rcases relI_spec a b c d h1 h2 with ⟨h, e⟩ | ⟨h, e⟩ | ⟨h, e⟩ | ⟨h, e⟩ | ⟨h, e⟩ | ⟨h, e⟩ | ⟨h, e⟩ | ⟨h, e⟩ | ⟨h, e⟩ | ⟨h, e⟩ | ⟨h, e⟩ | ⟨h, e⟩ | ⟨h, e⟩ <;> omega
theorem is_f (r a b c d : Int) (h1 : VP a b) (h2 : VP c d) : bitemporalref02_Is.f r a b c d = some (decide (relI a b c d = r)) := by
 have hr := relI_range a b c d
 have g1 := h1.2.1
 have g2 := h2.2.1
 have hd : ∀ (p q : Prop) [Decidable p] [Decidable q], (p ↔ q) → some (decide p) = some (decide q) := fun p q _ _ h => by rw [decide_eq_decide.2 h]
 have hf : ∀ (q : Prop) [Decidable q], ¬ q → some false = some (decide q) := fun q _ h => by rw [decide_eq_false h]
 have he : ∀ (x y : Int), (x == y) = decide (x = y) := fun x y => by by_cases h : x = y <;> simp [h]
 unfold bitemporalref02_Is.f
 simp only [he]
 by_cases r0 : r = 0
 ·subst r0
  rw [if_pos rfl]
  exact hd _ _ (relI_0 a b c d g1 g2).symm
 rw [if_neg r0]
 by_cases r1 : r = 1
 ·subst r1
  rw [if_pos rfl]
  exact hd _ _ (relI_1 a b c d g1 g2).symm
 rw [if_neg r1]
 by_cases r2 : r = 2
 ·subst r2
  rw [if_pos rfl]
  by_cases e0 : a < c
  ·rw [if_pos e0]
   by_cases e1 : c < b
   ·rw [if_pos e1]
    exact hd _ _ ((relI_2 a b c d g1 g2).trans ⟨fun h => h.2.2, fun h => ⟨e0, e1, h⟩⟩).symm
   ·rw [if_neg e1]
    exact hf _ (fun h => e1 ((relI_2 a b c d g1 g2).1 h).2.1)
  ·rw [if_neg e0]
   exact hf _ (fun h => e0 ((relI_2 a b c d g1 g2).1 h).1)
 rw [if_neg r2]
 by_cases r3 : r = 3
 ·subst r3
  rw [if_pos rfl]
  by_cases e0 : a = c
  ·rw [if_pos e0]
   exact hd _ _ ((relI_3 a b c d g1 g2).trans ⟨fun h => h.2, fun h => ⟨e0, h⟩⟩).symm
  ·rw [if_neg e0]
   exact hf _ (fun h => e0 ((relI_3 a b c d g1 g2).1 h).1)
 rw [if_neg r3]
 by_cases r4 : r = 4
 ·subst r4
  rw [if_pos rfl]
  by_cases e0 : c < a
  ·rw [if_pos e0]
   exact hd _ _ ((relI_4 a b c d g1 g2).trans ⟨fun h => h.2, fun h => ⟨e0, h⟩⟩).symm
  ·rw [if_neg e0]
   exact hf _ (fun h => e0 ((relI_4 a b c d g1 g2).1 h).1)
 rw [if_neg r4]
 by_cases r5 : r = 5
 ·subst r5
  rw [if_pos rfl]
  by_cases e0 : b = d
  ·rw [if_pos e0]
   exact hd _ _ ((relI_5 a b c d g1 g2).trans ⟨fun h => h.2, fun h => ⟨e0, h⟩⟩).symm
  ·rw [if_neg e0]
   exact hf _ (fun h => e0 ((relI_5 a b c d g1 g2).1 h).1)
 rw [if_neg r5]
 by_cases r6 : r = 6
 ·subst r6
  rw [if_pos rfl]
  rw [← Bool.decide_and]
  exact hd _ _ (relI_6 a b c d g1 g2).symm
 rw [if_neg r6]
 by_cases r7 : r = 7
 ·subst r7
  rw [if_pos rfl]
  by_cases e0 : b = d
  ·rw [if_pos e0]
   exact hd _ _ ((relI_7 a b c d g1 g2).trans ⟨fun h => h.2, fun h => ⟨e0, h⟩⟩).symm
  ·rw [if_neg e0]
   exact hf _ (fun h => e0 ((relI_7 a b c d g1 g2).1 h).1)
 rw [if_neg r7]
 by_cases r8 : r = 8
 ·subst r8
  rw [if_pos rfl]
  by_cases e0 : a < c
  ·rw [if_pos e0]
   exact hd _ _ ((relI_8 a b c d g1 g2).trans ⟨fun h => h.2, fun h => ⟨e0, h⟩⟩).symm
  ·rw [if_neg e0]
   exact hf _ (fun h => e0 ((relI_8 a b c d g1 g2).1 h).1)
 rw [if_neg r8]
 by_cases r9 : r = 9
 ·subst r9
  rw [if_pos rfl]
  by_cases e0 : a = c
  ·rw [if_pos e0]
   exact hd _ _ ((relI_9 a b c d g1 g2).trans ⟨fun h => h.2, fun h => ⟨e0, h⟩⟩).symm
  ·rw [if_neg e0]
   exact hf _ (fun h => e0 ((relI_9 a b c d g1 g2).1 h).1)
 rw [if_neg r9]
 by_cases r10 : r = 10
 ·subst r10
  rw [if_pos rfl]
  by_cases e0 : c < a
  ·rw [if_pos e0]
   by_cases e1 : a < d
   ·rw [if_pos e1]
    exact hd _ _ ((relI_10 a b c d g1 g2).trans ⟨fun h => h.2.2, fun h => ⟨e0, e1, h⟩⟩).symm
   ·rw [if_neg e1]
    exact hf _ (fun h => e1 ((relI_10 a b c d g1 g2).1 h).2.1)
  ·rw [if_neg e0]
   exact hf _ (fun h => e0 ((relI_10 a b c d g1 g2).1 h).1)
 rw [if_neg r10]
 by_cases r11 : r = 11
 ·subst r11
  rw [if_pos rfl]
  exact hd _ _ (relI_11 a b c d g1 g2).symm
 rw [if_neg r11]
 by_cases r12 : r = 12
 ·subst r12
  rw [if_pos rfl]
  exact hd _ _ (relI_12 a b c d g1 g2).symm
 rw [if_neg r12]
 exact hf _ (by omega)
theorem holds_r (r a b c d : Int) : bitemporalref02_Holds.f r a b c d = some (decide (VP a b ∧ VP c d ∧ relI a b c d = r)) := by
 unfold bitemporalref02_Holds.f
 rw [valid_r, Option.bind_some]
 by_cases h1 : VP a b
 ·rw [if_pos (decide_eq_true h1), valid_r, Option.bind_some]
  by_cases h2 : VP c d
  ·rw [if_pos (decide_eq_true h2), is_f r a b c d h1 h2, Option.bind_some]
   congr 1
   apply decide_eq_decide.2
   exact ⟨fun h => ⟨h1, h2, h⟩, fun h => h.2.2⟩
  ·rw [if_neg (by simpa using h2), decide_eq_false (fun h => h2 h.2.1)]
 ·rw [if_neg (by simpa using h1), decide_eq_false (fun h => h1 h.1)]
theorem rel_inv (a b c d : Int) (h1 : VP a b) (h2 : VP c d) : relI c d a b = 12 - relI a b c d := by
 have g1 := h1.2.1
 have g2 := h2.2.1
 have hr := relI_range a b c d
 have hx : relI a b c d = 0 ∨ relI a b c d = 1 ∨ relI a b c d = 2 ∨ relI a b c d = 3 ∨ relI a b c d = 4 ∨ relI a b c d = 5 ∨ relI a b c d = 6 ∨ relI a b c d = 7 ∨ relI a b c d = 8 ∨ relI a b c d = 9 ∨ relI a b c d = 10 ∨ relI a b c d = 11 ∨ relI a b c d = 12 := by omega
 rcases hx with e | e | e | e | e | e | e | e | e | e | e | e | e
 ·rw [e]
  have := (relI_0 a b c d g1 g2).1 e
  exact (relI_12 c d a b g2 g1).2 (by omega)
 ·rw [e]
  have := (relI_1 a b c d g1 g2).1 e
  exact (relI_11 c d a b g2 g1).2 (by omega)
 ·rw [e]
  have := (relI_2 a b c d g1 g2).1 e
  exact (relI_10 c d a b g2 g1).2 (by omega)
 ·rw [e]
  have := (relI_3 a b c d g1 g2).1 e
  exact (relI_9 c d a b g2 g1).2 (by omega)
 ·rw [e]
  have := (relI_4 a b c d g1 g2).1 e
  exact (relI_8 c d a b g2 g1).2 (by omega)
 ·rw [e]
  have := (relI_5 a b c d g1 g2).1 e
  exact (relI_7 c d a b g2 g1).2 (by omega)
 ·rw [e]
  have := (relI_6 a b c d g1 g2).1 e
  exact (relI_6 c d a b g2 g1).2 (by omega)
 ·rw [e]
  have := (relI_7 a b c d g1 g2).1 e
  exact (relI_5 c d a b g2 g1).2 (by omega)
 ·rw [e]
  have := (relI_8 a b c d g1 g2).1 e
  exact (relI_4 c d a b g2 g1).2 (by omega)
 ·rw [e]
  have := (relI_9 a b c d g1 g2).1 e
  exact (relI_3 c d a b g2 g1).2 (by omega)
 ·rw [e]
  have := (relI_10 a b c d g1 g2).1 e
  exact (relI_2 c d a b g2 g1).2 (by omega)
 ·rw [e]
  have := (relI_11 a b c d g1 g2).1 e
  exact (relI_1 c d a b g2 g1).2 (by omega)
 ·rw [e]
  have := (relI_12 a b c d g1 g2).1 e
  exact (relI_0 c d a b g2 g1).2 (by omega)
end Go.Proofs.Ytoemcdkopnclbaa.A
