/- What is to be shown of the pure function of FnExactPipe, for all arguments that Go's types let; and that what reads as such an argument is one. -/
import Derived.Test.YtonlhgkpmjefkaaWalkFnExactPipe
import Derived.Test.YtonlhgkpmjefkaaOpens
namespace Go.Proofs.Ytonlhgkpmjefkaa.SayFnExactPipe
open Go.RowKit Go.ChangeShapes Go.WideShapes Go.Deep Go.Proofs.Ytonlhgkpmjefkaa.Opens Go.Proofs.Ytonlhgkpmjefkaa.XFnExactPipe Go.Proofs.YtonlhgkpmjefkaaW.PrintWords Go.Proofs.YtonlhgkpmjefkaaW.PrintLast Go.Proofs.YtonlhgkpmjefkaaW.PrintMore
set_option linter.unusedVariables false
set_option linter.unusedSimpArgs false

theorem opens3 : Opens Try.prog 3 (Kd.int .i64) Num := opens_i64 Try.underlying3
theorem cells3 : Try.prog.cellsOf 3 = 1 := by kernel_rfl
theorem opens22 : Opens Try.prog 22 (Kd.slice 3 (Kd.int .i64)) (Each Num) := opens_slice Try.underlying22 cells3 opens3
/-- The pure statement. -/
def Pure : Prop := ∀ (a0 : Int) (l1 : (List Int)), Num a0 → (Each Num) l1 → ∃ k, laws_FnExactPipe.f k a0 l1 = some true
end Go.Proofs.Ytonlhgkpmjefkaa.SayFnExactPipe
