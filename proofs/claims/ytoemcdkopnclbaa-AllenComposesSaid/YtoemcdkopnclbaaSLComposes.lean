/-
  The plain law of AllenComposes.
-/
import Derived.Test.YtoemcdkopnclbaaSLSound
import Derived.Test.YtoemcdkopnclbaaSLAwake
import Derived.Test.YtoemcdkopnclbaaSHTightP
namespace Go.Proofs.Ytoemcdkopnclbaa.A
open Go.RowKit Go.Proofs.YtoemcdkopnclbaaW.PrintWords Go.Proofs.YtoemcdkopnclbaaW.PrintLast Go.Proofs.YtoemcdkopnclbaaW.PrintMore
theorem composes_l0 (l : List Int) (hl : l.length < 1000) (c : Int) : ∀ (d i k : Nat) (found : Bool), i + d = l.length → d + 40 < k → (found = true ∨ c ∈ l.drop i) → bitemporallaw02_AllenComposes.l0 k c true l found (i : Int) = some true
  | 0, i, k + 1, found, hi, hk, hf => by
    have : found = true := by
      rcases hf with h | h
      · exact h
      · rw [List.drop_eq_nil_of_le (by omega)] at h; simp at h
    rw [bitemporallaw02_AllenComposes.l0, if_neg (by omega), if_pos rfl, if_pos this, awake_f k (by omega)]
    rfl
  | d + 1, i, k + 1, found, hi, hk, hf => by
    have hlt : i < l.length := by omega
    rw [bitemporallaw02_AllenComposes.l0, if_pos (by omega), w64 i (by omega)]
    by_cases h : found = true
    · rw [if_pos h]
      exact composes_l0 l hl c d (i + 1) k true (by omega) (by omega) (Or.inl rfl)
    · rw [if_neg h, if_pos (by omega), rd_at l i hlt]
      refine composes_l0 l hl c d (i + 1) k _ (by omega) (by omega) ?_
      rcases hf with h2 | h2
      · exact absurd h2 h
      · rw [List.drop_eq_getElem_cons hlt, List.mem_cons] at h2
        rcases h2 with h2 | h2
        · exact Or.inl (by rw [h2]; simp)
        · exact Or.inr h2
theorem composes_law (a b c d e f : Int) : ∃ k, bitemporallaw02_AllenComposes.f k a b c d e f = some true := by
  obtain ⟨n, hn⟩ : ∃ n, n = 99 := ⟨_, rfl⟩
  refine ⟨n + 1, ?_⟩
  have R1 := rel_f (n + 1) (by omega) a b c d
  have R2 := rel_f (n + 1) (by omega) c d e f
  have R3 := rel_f (n + 1) (by omega) a b e f
  unfold bitemporallaw02_AllenComposes.f
  by_cases hv : VP a b ∧ VP c d ∧ VP e f
  · obtain ⟨h1, h2, h3⟩ := hv
    rw [if_pos ⟨h1, h2⟩] at R1
    rw [if_pos ⟨h2, h3⟩] at R2
    rw [if_pos ⟨h1, h3⟩] at R3
    have hx := relI_range a b c d
    have hy := relI_range c d e f
    have hz := relI_range a b e f
    have hs := comp_sound a b c d e f h1.2.1 h2.2.1 h3.2.1
    have hC : allen_Compose.f (relI a b c d) (relI c d e f) = some (listS (tabAt (relI a b c d).toNat (relI c d e f).toNat)) := by
      unfold allen_Compose.f
      rw [if_pos hx, if_pos hy, list_f _ 20 (Nat.lt_trans (tabAt_lt _ _) (by decide)) (by omega)]
    have hlen : (listS (tabAt (relI a b c d).toNat (relI c d e f).toNat)).length ≤ 13 := listFrom_len _ 13 0
    simp only [R1, R2, R3, Option.bind_some, if_true, Bool.not_true]
    rw [bitemporallaw02_AllenComposes.j0, if_neg (by decide), hC, Option.bind_some]
    refine composes_l0 _ (by omega) _ _ 0 n false (by rw [Nat.zero_add]) (by omega) (Or.inr ?_)
    rw [List.drop_zero]
    exact (listS_mem _ _).2 ⟨(relI a b e f).toNat, by omega, by omega, hs⟩
  · have hJ : ∀ x y z w, bitemporallaw02_AllenComposes.j0 (n + 1) x y z w true a b c d e f = some true := by
      intro x y z w
      rw [bitemporallaw02_AllenComposes.j0, if_pos rfl, valid_r, Option.bind_some]
      by_cases h1 : VP a b
      · rw [if_pos (decide_eq_true h1), valid_r, Option.bind_some]
        by_cases h2 : VP c d
        · rw [if_pos (decide_eq_true h2), valid_r, Option.bind_some, if_neg (by rw [decide_eq_false (fun h3 => hv ⟨h1, h2, h3⟩)]; decide), awake_f n (by omega)]
          rfl
        · rw [if_neg (by rw [decide_eq_false h2]; decide), awake_f n (by omega)]
          rfl
      · rw [if_neg (by rw [decide_eq_false h1]; decide), awake_f n (by omega)]
        rfl
    by_cases h12 : VP a b ∧ VP c d
    · rw [if_pos h12] at R1
      rw [if_neg (fun h => hv ⟨h12.1, h12.2, h.2⟩)] at R2
      rw [if_neg (fun h => hv ⟨h12.1, h12.2, h.2⟩)] at R3
      simp only [R1, R2, R3, Option.bind_some, if_true, Bool.not_false]
      exact hJ _ _ _ _
    · rw [if_neg h12] at R1
      simp only [R1, R2, R3, Option.bind_some, Bool.false_eq_true, if_false]
      exact hJ _ _ _ _
/-- The same behind what the row knows of its numbers. -/
theorem composes_row (a b c d e f : Int) (_ : (Lit.int .i64 a).wf = true) (_ : (Lit.int .i64 b).wf = true) (_ : (Lit.int .i64 c).wf = true) (_ : (Lit.int .i64 d).wf = true) (_ : (Lit.int .i64 e).wf = true) (_ : (Lit.int .i64 f).wf = true) : ∃ k, bitemporallaw02_AllenComposes.f k a b c d e f = some true := composes_law a b c d e f
end Go.Proofs.Ytoemcdkopnclbaa.A
