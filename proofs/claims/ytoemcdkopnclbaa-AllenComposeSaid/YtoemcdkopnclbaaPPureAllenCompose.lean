/-
  The statement over numbers that is left of AllenCompose, proved: see YtoemcdkopnclbaaLTable.
-/
import Derived.Test.YtoemcdkopnclbaaPLTable
namespace Go.Proofs.Ytoemcdkopnclbaa.Pure
open Go.RowKit Go.Proofs.Ytoemcdkopnclbaa.A
theorem AllenCompose : bitemporallaw02_AllenCompose.Pure := fun a b _ _ => compose_law a b
end Go.Proofs.Ytoemcdkopnclbaa.Pure
