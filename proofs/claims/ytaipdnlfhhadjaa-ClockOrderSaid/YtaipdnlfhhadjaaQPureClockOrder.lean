/-
  The statement over numbers and lists that is left of ClockOrder, proved: see YtaipdnlfhhadjaaLReplay.
-/
import Derived.Test.YtaipdnlfhhadjaaQLReplay
namespace Go.Proofs.Ytaipdnlfhhadjaa.Pure
open Go.RowKit Go.Proofs.Ytaipdnlfhhadjaa.C
theorem ClockOrder : bitemporallaw06_ClockOrder.Pure := fun l _ hl _ => order_law l hl
end Go.Proofs.Ytaipdnlfhhadjaa.Pure
