/-
  awake answers true from 40 rounds on; the plain laws of AllenInverse and AllenNames.
-/
import Derived.Test.YtoemcdkopnclbaaPAx11
namespace Go.Proofs.Ytoemcdkopnclbaa.A
open Go.RowKit Go.Proofs.YtoemcdkopnclbaaW.PrintWords Go.Proofs.YtoemcdkopnclbaaW.PrintLast Go.Proofs.YtoemcdkopnclbaaW.PrintMore
set_option linter.unusedVariables false
theorem awake_f (k : Nat) (h : 40 ≤ k) : bitemporallaw02_awake.f k = some true := by
  unfold bitemporallaw02_awake.f
  rw [if_pos h]
theorem inverse_r (a : Int) : bitemporalref02_Inverse.f a = allen_Inverse.f a := by
  unfold bitemporalref02_Inverse.f allen_Inverse.f
  by_cases h1 : a < 0
  · rw [if_pos h1, if_neg (by omega)]
  · by_cases h2 : a ≥ 13
    · rw [if_neg h1, if_pos h2, if_neg (by omega)]
    · rw [if_neg h1, if_neg h2, if_pos (by omega)]
      congr 1
      unfold wrap64
      omega
theorem inverse_law (a : Int) : ∃ k, bitemporallaw02_AllenInverse.f k a = some true := by
  refine ⟨40, ?_⟩
  unfold bitemporallaw02_AllenInverse.f
  rw [inverse_r]
  by_cases h : 0 ≤ a ∧ a < 13
  · have e : allen_Inverse.f a = some (12 - a) := by unfold allen_Inverse.f; rw [if_pos h]
    have e2 : allen_Inverse.f (12 - a) = some a := by unfold allen_Inverse.f; rw [if_pos (by omega)]; congr 1; omega
    rw [e]
    simp only [Option.bind_some, if_true]
    rw [if_neg (by omega), e2]
    simp only [Option.bind_some, if_true]
    rw [awake_f 40 (by omega)]
    rfl
  · have e : allen_Inverse.f a = some (-1) := by unfold allen_Inverse.f; rw [if_neg h]
    rw [e]
    simp only [Option.bind_some, if_true]
    rw [if_pos (by omega), awake_f 40 (by omega)]
    rfl
theorem name_r (a : Int) : bitemporalref02_Name.f a = allen_Name.f a := by
  unfold allen_Name.f
  by_cases h : 0 ≤ a ∧ a < 13
  · rw [if_pos h]
    have hc : a = 0 ∨ a = 1 ∨ a = 2 ∨ a = 3 ∨ a = 4 ∨ a = 5 ∨ a = 6 ∨ a = 7 ∨ a = 8 ∨ a = 9 ∨ a = 10 ∨ a = 11 ∨ a = 12 := by omega
    rcases hc with rfl | rfl | rfl | rfl | rfl | rfl | rfl | rfl | rfl | rfl | rfl | rfl | rfl <;> rfl
  · rw [if_neg h]
    unfold bitemporalref02_Name.f
    by_cases h1 : a < 0
    · rw [if_pos h1]
    · rw [if_neg h1, if_pos (by omega)]
theorem find_l0 (s : ByteArray) : ∀ d i k : Nat, i + d = 13 → d < k → bitemporalref02_Find.l0 k s (i : Int) = some (findF s d i)
  | 0, i, k + 1, hi, hk => by
    rw [bitemporalref02_Find.l0, if_neg (by omega), findF]
  | d + 1, i, k + 1, hi, hk => by
    rw [bitemporalref02_Find.l0, if_pos (by omega), name_r, findF]
    have e : allen_Name.f (i : Int) = some (nm i) := by unfold allen_Name.f; rw [if_pos (by omega), Int.toNat_natCast]
    rw [e, Option.bind_some]
    by_cases h : (nm i).toList = s.toList
    · rw [if_pos h, if_pos h]
    · rw [if_neg h, if_neg h, show wrap64 ((i : Int) + 1) = ((i + 1 : Nat) : Int) by unfold wrap64; omega]
      exact find_l0 s d (i + 1) k (by omega) (by omega)
theorem find_r (s : ByteArray) (k : Nat) (hk : 13 < k) : bitemporalref02_Find.f k s = allen_Find.f s := find_l0 s 13 0 k rfl hk
theorem find_name (a : Nat) (h : a < 13) : allen_Find.f (nm a) = some (a : Int) := by
  have : ∀ a < 13, findF (nm a) 13 0 = ((a : Nat) : Int) := by decide +kernel
  unfold allen_Find.f
  rw [this a h]
theorem nm_nonempty (a : Nat) (h : a < 13) : (nm a).toList ≠ [] := by
  have : ∀ a < 13, (nm a).toList ≠ [] := by decide +kernel
  exact this a h
theorem names_law (a : Int) (s : ByteArray) : ∃ k, bitemporallaw02_AllenNames.f k a s = some true := by
  refine ⟨40, ?_⟩
  unfold bitemporallaw02_AllenNames.f
  rw [name_r, find_r s 40 (by omega), awake_f 40 (by omega)]
  by_cases hs : (s.size : Int) > 40
  · rw [if_pos hs]; rfl
  rw [if_neg hs]
  have hF : allen_Find.f s = some (findF s 13 0) := rfl
  by_cases h : 0 ≤ a ∧ a < 13
  · obtain ⟨n, rfl⟩ : ∃ n : Nat, a = (n : Int) := ⟨a.toNat, by omega⟩
    have e : allen_Name.f (n : Int) = some (nm n) := by unfold allen_Name.f; rw [if_pos h, Int.toNat_natCast]
    rw [e, hF]
    simp only [Option.bind_some, if_true]
    rw [if_neg (nm_nonempty n (by omega)), find_name n (by omega)]
    simp only [Option.bind_some, if_true]
  · have e : allen_Name.f a = some ⟨#[]⟩ := by unfold allen_Name.f; rw [if_neg h]
    rw [e, hF]
    simp only [Option.bind_some, if_true]
    rw [if_pos (show (⟨#[]⟩ : ByteArray).toList = [] by decide +kernel)]
end Go.Proofs.Ytoemcdkopnclbaa.A
