/-
  Small facts on the printed plain functions: counters, elements of lists, comparisons of lists.
-/
import Derived.Test.YtaipdnlfhhadjaaQCx6
namespace Go.Proofs.Ytaipdnlfhhadjaa.C
open Go.RowKit Go.Proofs.YtaipdnlfhhadjaaW.PrintWords Go.Proofs.YtaipdnlfhhadjaaW.PrintLast Go.Proofs.YtaipdnlfhhadjaaW.PrintMore
theorem wrap_up {i : Nat} (h : i < 4611686018427387904) : wrap64 ((i : Int) + 1) = ((i + 1 : Nat) : Int) := by unfold wrap64; omega
theorem rd_get (l : List Int) (i : Nat) (h : i < l.length) : rd l (i : Int) = l[i] := by simp [rd, List.getD_eq_getElem?_getD, List.getElem?_eq_getElem h]
theorem rd34_get (l : List S34) (i : Nat) (h : i < l.length) : rd_T34 l (i : Int) = l[i] := by simp [rd_T34, List.getD_eq_getElem?_getD, List.getElem?_eq_getElem h]
theorem rd49_get (l : List S49) (i : Nat) (h : i < l.length) : rd_T49 l (i : Int) = l[i] := by simp [rd_T49, List.getD_eq_getElem?_getD, List.getElem?_eq_getElem h]
theorem stamps_same (l : List S34) (hl : l.length < 4611686018427387904) : Ev (fun k => bitemporallaw06_stamps.f k l l) true := by
  have key : ∀ d i, l.length - i = d → i ≤ l.length → Ev (fun k => bitemporallaw06_stamps.l0 k l l (l.length : Int) (i : Int)) true := by
    intro d
    induction d with
    | zero =>
      intro i hd hi
      refine Ev.step (f := fun _ => some true) (fun k => ?_) (Ev.now _)
      simp only [bitemporallaw06_stamps.l0]
      rw [if_neg (by omega)]
    | succ d ih =>
      intro i hd hi
      refine Ev.step (fun k => ?_) (ih (i + 1) (by omega) (by omega))
      simp only [bitemporallaw06_stamps.l0]
      rw [if_pos (by omega), if_pos (by omega), if_pos (by omega), if_pos (by omega), if_neg (by simp), wrap_up (by omega)]
  refine Ev.congr (fun k => ?_) (key _ 0 rfl (by omega))
  unfold bitemporallaw06_stamps.f
  rw [if_pos rfl]
  rfl
end Go.Proofs.Ytaipdnlfhhadjaa.C
