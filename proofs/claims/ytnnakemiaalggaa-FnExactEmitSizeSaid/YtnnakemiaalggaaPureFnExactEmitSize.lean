/- The program's EmitSize is the reference's, at every place of a program. -/
import Derived.Test.YtnnakemiaalggaaSayFnExactEmitSize
import Derived.Test.YtnnakemiaalggaaLib
namespace Go.Proofs.Ytnnakemiaalggaa.Pure
open Go.RowKit Go.Proofs.Ytnnakemiaalggaa.PFnExactEmitSize Go.Proofs.Ytnnakemiaalggaa.Lib Go.Proofs.YtnnakemiaalggaaW.PrintWords Go.Proofs.YtnnakemiaalggaaW.PrintLast Go.Proofs.YtnnakemiaalggaaW.PrintMore
open Go.Proofs.Ytnnakemiaalggaa

theorem FnExactEmitSize : SayFnExactEmitSize.Pure := by
  rintro ⟨a, b, c, d, e⟩ _
  have h : ∃ r, spec_EmitSize.f a b c d e = some r := by
    unfold spec_EmitSize.f spec_l1In.f spec_l4Bit.f
    repeat' (first | exact ⟨_, rfl⟩ | split | simp only [Option.bind_some])
  obtain ⟨r, h⟩ := h
  have h' : impl_EmitSize.f a b c d e = some r := h
  simp [laws_FnExactEmitSize.f, laws_toIns.f, h, h']
end Go.Proofs.Ytnnakemiaalggaa.Pure
