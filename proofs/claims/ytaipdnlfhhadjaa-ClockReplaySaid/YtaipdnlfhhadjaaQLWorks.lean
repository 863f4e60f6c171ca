/-
  The chapter's examples hold: 'works' answers true (by the kernel's own reckoning of the plain functions).
-/
import Derived.Test.YtaipdnlfhhadjaaQCx6
namespace Go.Proofs.Ytaipdnlfhhadjaa.C
open Go.RowKit Go.Proofs.YtaipdnlfhhadjaaW.PrintWords Go.Proofs.YtaipdnlfhhadjaaW.PrintLast Go.Proofs.YtaipdnlfhhadjaaW.PrintMore
theorem works_ev : Ev bitemporallaw06_works.f true := Ev.of bitemporallaw06_works.mono (k := 20) (by decide +kernel)
end Go.Proofs.Ytaipdnlfhhadjaa.C
