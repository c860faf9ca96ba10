/- What is to be shown of the pure function of FnPipeBodies, for all arguments that Go's types let; and that what reads as such an argument is one. -/
import Derived.Test.YtonlhgkpmjefkaaWalkFnPipeBodies
import Derived.Test.YtonlhgkpmjefkaaOpens
namespace Go.Proofs.Ytonlhgkpmjefkaa.SayFnPipeBodies
open Go.RowKit Go.ChangeShapes Go.WideShapes Go.Deep Go.Proofs.Ytonlhgkpmjefkaa.Opens Go.Proofs.Ytonlhgkpmjefkaa.XFnPipeBodies Go.Proofs.YtonlhgkpmjefkaaW.PrintWords Go.Proofs.YtonlhgkpmjefkaaW.PrintLast Go.Proofs.YtonlhgkpmjefkaaW.PrintMore
set_option linter.unusedVariables false
set_option linter.unusedSimpArgs false

theorem opens5 : Opens Try.prog 5 (Kd.int .u8) Byt := opens_u8 Try.underlying5
theorem cells5 : Try.prog.cellsOf 5 = 1 := by kernel_rfl
theorem opens34 : Opens Try.prog 34 (Kd.slice 5 (Kd.int .u8)) (Each Byt) := opens_slice Try.underlying34 cells5 opens5
/-- The pure statement. -/
def Pure : Prop := ∀ (l0 : (List Int)), (Each Byt) l0 → ∃ k, laws_FnPipeBodies.f k l0 = some true
end Go.Proofs.Ytonlhgkpmjefkaa.SayFnPipeBodies
