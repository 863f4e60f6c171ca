/-
  The reference's Shown: what the call computes (valid stamps, a reading; fewer than 2^43 stamps), and that it leaves all that was there.
-/
import Derived.Test.YtaipdnlfhhadjaaQCx8
import Derived.Test.YtaipdnlfhhadjaaQCx9
import Derived.Test.YtaipdnlfhhadjaaQBlk
namespace Go.Proofs.Ytaipdnlfhhadjaa.C
open Go.RowKit Go.Proofs.YtaipdnlfhhadjaaW.PrintWords Go.Proofs.YtaipdnlfhhadjaaW.PrintLast Go.Proofs.YtaipdnlfhhadjaaW.PrintMore
attribute [local go_sem] max2_int min2_int max_two min_two max_three min_three max_four min_four
set_option linter.unusedVariables false
set_option linter.unusedSimpArgs false
def refAdd (xs : List S49) (p0 p1 : Int) : List S49 :=
  match xs.length with
  | 0 => [⟨p0, p1⟩]
  | m + 1 => if (rd_T49 xs (m : Int)).f1 = p0 then xs.set m ⟨(rd_T49 xs (m : Int)).f0, p1⟩ else xs ++ [⟨p0, p1⟩]
theorem add_block (a : Addr) (n : Nat) : (a.add n).block = a.block := by unfold Addr.add; split <;> rfl
end Go.Proofs.Ytaipdnlfhhadjaa.C
