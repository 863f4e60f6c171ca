/-
  The plain law behind ClockNext: Next and Behind answer as the reference's, for every clock and every reading.
-/
import Derived.Test.YtaipdnlfhhadjaaQLWorks
import Derived.Test.YtaipdnlfhhadjaaQCx7
namespace Go.Proofs.Ytaipdnlfhhadjaa.C
open Go.RowKit Go.Proofs.YtaipdnlfhhadjaaW.PrintWords Go.Proofs.YtaipdnlfhhadjaaW.PrintLast Go.Proofs.YtaipdnlfhhadjaaW.PrintMore
theorem next_eq (a b c : Int) : bitemporalref06_Next.f a b c = clock_Next.f a b c := by
  unfold bitemporalref06_Next.f clock_Next.f bitemporalref06_Valid.f bitemporalref06_Reading.f clock_valid.f clock_instant.f
  rfl
end Go.Proofs.Ytaipdnlfhhadjaa.C
