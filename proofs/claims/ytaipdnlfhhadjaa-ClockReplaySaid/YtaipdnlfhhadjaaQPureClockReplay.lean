/-
  The statement over numbers and lists that is left of ClockReplay, proved: see YtaipdnlfhhadjaaLReplay.
-/
import Derived.Test.YtaipdnlfhhadjaaQLReplay
namespace Go.Proofs.Ytaipdnlfhhadjaa.Pure
open Go.RowKit Go.Proofs.Ytaipdnlfhhadjaa.C
theorem ClockReplay : bitemporallaw06_ClockReplay.Pure := fun l _ hl _ => replay_law l hl
end Go.Proofs.Ytaipdnlfhhadjaa.Pure
