/-
  The reference's Table holds the same triples as the program's, and its Compose answers the same lists.
-/
import Derived.Test.YtoemcdkopnclbaaUAx13
import Derived.Test.YtoemcdkopnclbaaUAx14
import Derived.Test.YtoemcdkopnclbaaULRel
import Derived.Test.YtoemcdkopnclbaaUHCompsP
import Derived.Test.YtoemcdkopnclbaaUHTightP
namespace Go.Proofs.Ytoemcdkopnclbaa.A
open Go.RowKit Go.Proofs.YtoemcdkopnclbaaW.PrintWords Go.Proofs.YtoemcdkopnclbaaW.PrintLast Go.Proofs.YtoemcdkopnclbaaW.PrintMore
set_option linter.unusedVariables false
set_option linter.unusedSimpArgs false
theorem rel_l0 (a b c d : Int) : ∀ n i k : Nat, i + n = 13 → n < k → (∀ j : Nat, j < i → ¬ (VP a b ∧ VP c d ∧ relI a b c d = (j : Int))) → bitemporalref02_Relation.l0 k (i : Int) a b c d = some (if VP a b ∧ VP c d then (relI a b c d, true) else (0, false))
 | 0, i, k + 1, hi, hk, hj => by
  rw [bitemporalref02_Relation.l0, if_neg (by omega)]
  by_cases hv : VP a b ∧ VP c d
  ·have hr := relI_range a b c d
   exact absurd ⟨hv.1, hv.2, by omega⟩ (hj (relI a b c d).toNat (by omega))
  ·rw [if_neg hv]
 | n + 1, i, k + 1, hi, hk, hj => by
  rw [bitemporalref02_Relation.l0, if_pos (by omega), holds_r, Option.bind_some]
  by_cases h : VP a b ∧ VP c d ∧ relI a b c d = (i : Int)
  ·rw [if_pos (decide_eq_true h), if_pos ⟨h.1, h.2.1⟩, h.2.2]
  ·rw [if_neg (by simpa using h), show wrap64 ((i : Int) + 1) = ((i + 1 : Nat) : Int) by unfold wrap64; omega]
   refine rel_l0 a b c d n (i + 1) k (by omega) (by omega) (fun j hj2 => ?_)
   by_cases e : j = i
   ·subst e; exact h
   ·exact hj j (by omega)
theorem rel_r (k : Nat) (hk : 14 ≤ k) (a b c d : Int) : bitemporalref02_Relation.f k a b c d = some (if VP a b ∧ VP c d then (relI a b c d, true) else (0, false)) :=
 rel_l0 a b c d 13 0 k (by omega) (by omega) (fun j hj => absurd hj (by omega))
end Go.Proofs.Ytoemcdkopnclbaa.A
