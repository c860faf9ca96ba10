/- What is to be shown of the pure function of FnExactLitOk, for all arguments that Go's types let; and that what reads as such an argument is one. -/
import Derived.Test.YtnnakemiaalggaaXFnExactLitOkx3
import Derived.Test.YtnnakemiaalggaaOpens
namespace Go.Proofs.Ytnnakemiaalggaa.SayFnExactLitOk
open Go.RowKit Go.ChangeShapes Go.WideShapes Go.Deep Go.Proofs.Ytnnakemiaalggaa.Opens Go.Proofs.Ytnnakemiaalggaa.XFnExactLitOk Go.Proofs.YtnnakemiaalggaaW.PrintWords Go.Proofs.YtnnakemiaalggaaW.PrintLast Go.Proofs.YtnnakemiaalggaaW.PrintMore
set_option linter.unusedVariables false
set_option linter.unusedSimpArgs false

theorem opens3 : Opens Try.prog 3 (Kd.int .i64) Num := opens_i64 Try.underlying3
def P97 (x : S97) : Prop := Num x.f0 ∧ Num x.f1 ∧ Num x.f2
theorem opens97 : Opens Try.prog 97 k97 P97 := fun H enc w s b f cs x h => by
  obtain ⟨xs, n, _, _, hl, hxl, hg⟩ := DataW.trod_struct Try.underlying97 h
  replace hl : cs.length = 3 := hl.trans (by kernel_rfl)
  replace hxl : xs.length = 3 := hxl
  match cs, hl with
  | [c0, c1, c2], _ =>
    have g0 := hg 0 _ rfl
    rw [List.getElem?_eq_getElem (by omega)] at g0
    replace g0 : DataW.trod enc Try.prog w 0 s b n 3 [c0] = some (xs[0]'(by omega)) := by
      refine Eq.trans ?_ g0
      show _ = DataW.trod enc Try.prog w 0 s b n 3 (List.take (Try.prog.cellsOf 3) (List.drop 0 [c0, c1, c2]))
      rw [show Try.prog.cellsOf 3 = 1 by kernel_rfl]
      rfl
    obtain ⟨y0, q0, r0⟩ := opens3 H enc w s b n _ _ g0
    have g1 := hg 1 _ rfl
    rw [List.getElem?_eq_getElem (by omega)] at g1
    replace g1 : DataW.trod enc Try.prog w 0 s b n 3 [c1] = some (xs[1]'(by omega)) := by
      refine Eq.trans ?_ g1
      show _ = DataW.trod enc Try.prog w 0 s b n 3 (List.take (Try.prog.cellsOf 3) (List.drop 1 [c0, c1, c2]))
      rw [show Try.prog.cellsOf 3 = 1 by kernel_rfl]
      rfl
    obtain ⟨y1, q1, r1⟩ := opens3 H enc w s b n _ _ g1
    have g2 := hg 2 _ rfl
    rw [List.getElem?_eq_getElem (by omega)] at g2
    replace g2 : DataW.trod enc Try.prog w 0 s b n 3 [c2] = some (xs[2]'(by omega)) := by
      refine Eq.trans ?_ g2
      show _ = DataW.trod enc Try.prog w 0 s b n 3 (List.take (Try.prog.cellsOf 3) (List.drop 2 [c0, c1, c2]))
      rw [show Try.prog.cellsOf 3 = 1 by kernel_rfl]
      rfl
    obtain ⟨y2, q2, r2⟩ := opens3 H enc w s b n _ _ g2
    exact ⟨⟨y0, y1, y2⟩, ⟨[c0], [c1, c2], rfl, q0, ⟨[c1], [c2], rfl, q1, q2⟩⟩, r0, r1, r2⟩
theorem opens84 : Opens Try.prog 84 (Kd.slice 97 k97) (Each P97) := opens_slice Try.underlying84 (by kernel_rfl) opens97
theorem opens56 : Opens Try.prog 56 (Kd.slice 84 (Kd.slice 97 k97)) (Each (Each P97)) := opens_slice Try.underlying56 (by kernel_rfl) opens84
/-- The pure statement. -/
def Pure : Prop := ∀ (l0 : (List (List S97))), (Each (Each P97)) l0 → ∃ k, laws_FnExactLitOk.f k l0 = some true
end Go.Proofs.Ytnnakemiaalggaa.SayFnExactLitOk
