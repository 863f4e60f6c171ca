/-
  awake answers true from 40 rounds on; the plain laws of AllenInverse and AllenNames.
-/
import Derived.Test.YtoemcdkopnclbaaSAx11
namespace Go.Proofs.Ytoemcdkopnclbaa.A
open Go.RowKit Go.Proofs.YtoemcdkopnclbaaW.PrintWords Go.Proofs.YtoemcdkopnclbaaW.PrintLast Go.Proofs.YtoemcdkopnclbaaW.PrintMore
set_option linter.unusedVariables false
theorem awake_f (k : Nat) (h : 40 ≤ k) : bitemporallaw02_awake.f k = some true := by
  unfold bitemporallaw02_awake.f
  rw [if_pos h]
end Go.Proofs.Ytoemcdkopnclbaa.A
