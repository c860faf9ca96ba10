/- The program's Total is the reference's, at every number. -/
import Derived.Test.YtnnakemiaalggaaPFnExactTotalx1
import Derived.Test.YtnnakemiaalggaaLib
import Derived.OpenShut
namespace Go.Proofs.Ytnnakemiaalggaa.Pure
open Go.RowKit Go.Proofs.Ytnnakemiaalggaa.PFnExactTotal Go.Proofs.Ytnnakemiaalggaa.Lib Go.Proofs.YtnnakemiaalggaaW.PrintWords Go.Proofs.YtnnakemiaalggaaW.PrintLast Go.Proofs.YtnnakemiaalggaaW.PrintMore
set_option linter.unusedVariables false
set_option linter.unusedSimpArgs false

theorem FnExactTotal : laws_FnExactTotal.Pure := by
  intro a _
  have h : ∃ r, spec_Total.f a = some r := by
    unfold spec_Total.f spec_l1In.f
    split
    · simp only [Option.bind_some]
      split <;> exact ⟨_, rfl⟩
    · exact ⟨_, rfl⟩
  obtain ⟨r, h⟩ := h
  have h2 : impl_Total.f a = some r := h
  unfold laws_FnExactTotal.f
  rw [h, h2]
  simp

end Go.Proofs.Ytnnakemiaalggaa.Pure
