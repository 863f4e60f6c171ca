/-
  The statement over numbers and strings that is left of AllenNames, proved: see YtoemcdkopnclbaaLAwake.
-/
import Derived.Test.YtoemcdkopnclbaaPLAwake
namespace Go.Proofs.Ytoemcdkopnclbaa.Pure
open Go.RowKit Go.Proofs.Ytoemcdkopnclbaa.A
theorem AllenNames : bitemporallaw02_AllenNames.Pure := fun a s _ _ => names_law a s
end Go.Proofs.Ytoemcdkopnclbaa.Pure
