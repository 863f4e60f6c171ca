/-
  The statement over numbers and lists that is left of ClockFound, proved: see YtaipdnlfhhadjaaLReplay.
-/
import Derived.Test.YtaipdnlfhhadjaaQLReplay
namespace Go.Proofs.Ytaipdnlfhhadjaa.Pure
open Go.RowKit Go.Proofs.Ytaipdnlfhhadjaa.C
theorem ClockFound : bitemporallaw06_ClockFound.Pure := fun l _ hl _ => found_law l hl
end Go.Proofs.Ytaipdnlfhhadjaa.Pure
