/-
  The statement over numbers and strings that is left of AllenInverse, proved: see YtoemcdkopnclbaaLAwake.
-/
import Derived.Test.YtoemcdkopnclbaaPLAwake
namespace Go.Proofs.Ytoemcdkopnclbaa.Pure
open Go.RowKit Go.Proofs.Ytoemcdkopnclbaa.A
theorem AllenInverse : bitemporallaw02_AllenInverse.Pure := fun a _ => inverse_law a
end Go.Proofs.Ytoemcdkopnclbaa.Pure
