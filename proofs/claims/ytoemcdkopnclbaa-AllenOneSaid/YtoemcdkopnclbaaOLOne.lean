/-
  The plain law of AllenOne: exactly one relation holds between two valid periods; relations are as defined for all arguments.
-/
import Derived.Test.YtoemcdkopnclbaaOLRel
import Derived.Test.YtoemcdkopnclbaaOAx9
namespace Go.Proofs.Ytoemcdkopnclbaa.A
open Go.RowKit Go.Proofs.YtoemcdkopnclbaaW.PrintWords Go.Proofs.YtoemcdkopnclbaaW.PrintLast Go.Proofs.YtoemcdkopnclbaaW.PrintMore
theorem awake_40 (k : Nat) (h : 40 ≤ k) : bitemporallaw02_awake.f k = some true := by
 unfold bitemporallaw02_awake.f
 rw [if_pos h]
theorem one_end (a b c d : Int) (k : Nat) (hk : 60 ≤ k) : bitemporallaw02_AllenOne.l0 (k + 2) (if VP a b ∧ VP c d then 1 else 0) 14 a b c d = some true := by
 have R := rel_f (k + 1) (by omega) a b c d
 by_cases hv : VP a b ∧ VP c d
 ·have hr := relI_range a b c d
  rw [if_pos hv] at R
  rw [if_pos hv, bitemporallaw02_AllenOne.l0, if_neg (by decide), R, Option.bind_some, valid_r, Option.bind_some, if_pos (decide_eq_true hv.1), valid_r, Option.bind_some, decide_eq_true hv.2, if_neg (by simp), if_neg (by simp), if_pos rfl]
  rw [bitemporallaw02_AllenOne.j1, if_neg (by decide), if_pos rfl, holds_f k (by omega), Option.bind_some, if_pos (decide_eq_true ⟨hv.1, hv.2, rfl⟩)]
  have hI : allen_Inverse.f (relI a b c d) = some (12 - relI a b c d) := by unfold allen_Inverse.f; rw [if_pos hr]
  rw [hI, Option.bind_some, holds_f k (by omega), Option.bind_some, if_pos (decide_eq_true ⟨hv.2, hv.1, rel_inv a b c d hv.1 hv.2⟩), awake_40 k (by omega)]
  rfl
 ·rw [if_neg hv] at R
  have hj : bitemporallaw02_AllenOne.j1 (k + 1) 0 false false a b c d = some true := by
   rw [bitemporallaw02_AllenOne.j1, if_neg (by decide), if_neg (by decide), awake_40 k (by omega)]
   rfl
  rw [if_neg hv, bitemporallaw02_AllenOne.l0, if_neg (by decide), R, Option.bind_some, valid_r, Option.bind_some]
  by_cases h1 : VP a b
  ·rw [if_pos (decide_eq_true h1), valid_r, Option.bind_some, decide_eq_false (fun h2 => hv ⟨h1, h2⟩), if_neg (by decide), if_neg (by decide), if_neg (by decide), if_pos rfl]
   exact hj
  ·rw [if_neg (by rw [decide_eq_false h1]; decide), if_neg (by decide), if_neg (by decide), if_neg (by decide), if_pos rfl]
   exact hj
theorem one_l0 (a b c d : Int) : ∀ (n : Nat) (r : Int) (k : Nat), r + n = 14 → -1 ≤ r → n + 70 ≤ k → bitemporallaw02_AllenOne.l0 k (if (VP a b ∧ VP c d) ∧ relI a b c d < r then 1 else 0) r a b c d = some true
 | 0, r, k, hr, h1, hk => by
  obtain rfl : r = 14 := by omega
  obtain ⟨k, rfl⟩ : ∃ m, k = m + 2 := ⟨k - 2, by omega⟩
  have hr := relI_range a b c d
  have e : (if (VP a b ∧ VP c d) ∧ relI a b c d < 14 then (1 : Int) else 0) = if VP a b ∧ VP c d then 1 else 0 := by
   by_cases h : VP a b ∧ VP c d
   ·rw [if_pos ⟨h, by omega⟩, if_pos h]
   ·rw [if_neg (fun x => h x.1), if_neg h]
  rw [e]
  exact one_end a b c d k (by omega)
 | n + 1, r, k + 1, hr, h1, hk => by
  have hw : wrap64 (r + 1) = r + 1 := by unfold wrap64; omega
  have ih := one_l0 a b c d n (r + 1) k (by omega) (by omega) (by omega)
  rw [bitemporallaw02_AllenOne.l0, if_pos (by omega), holds_f k (by omega), Option.bind_some, holds_r, Option.bind_some, if_neg (by simp), Option.bind_some, hw]
  by_cases h : VP a b ∧ VP c d ∧ relI a b c d = r
  ·rw [if_pos (decide_eq_true h), if_neg (fun x => by have := h.2.2; omega)]
   rw [if_pos ⟨⟨h.1, h.2.1⟩, by have := h.2.2; omega⟩] at ih
   rw [show wrap64 ((0 : Int) + 1) = 1 by unfold wrap64; omega]
   exact ih
  ·rw [if_neg (by rw [decide_eq_false h]; decide)]
   have e : (if (VP a b ∧ VP c d) ∧ relI a b c d < r then (1 : Int) else 0) = if (VP a b ∧ VP c d) ∧ relI a b c d < r + 1 then 1 else 0 := by
    by_cases h2 : (VP a b ∧ VP c d) ∧ relI a b c d < r
    ·rw [if_pos h2, if_pos ⟨h2.1, by have := h2.2; omega⟩]
    ·rw [if_neg h2, if_neg (fun x => h2 ⟨x.1, by
      have h3 := x.2
      by_cases e : relI a b c d = r
      ·exact absurd ⟨x.1.1, x.1.2, e⟩ h
      ·omega⟩)]
   rw [e]
   exact ih
theorem one_row (a b c d : Int) (_ : (Lit.int .i64 a).wf = true) (_ : (Lit.int .i64 b).wf = true) (_ : (Lit.int .i64 c).wf = true) (_ : (Lit.int .i64 d).wf = true) : ∃ k, bitemporallaw02_AllenOne.f k a b c d = some true := by
 refine ⟨200, ?_⟩
 have h := one_l0 a b c d 15 (-1) 200 (by omega) (by omega) (by omega)
 have hr := relI_range a b c d
 rw [if_neg (fun x => by have := x.2; omega)] at h
 exact h
end Go.Proofs.Ytoemcdkopnclbaa.A
