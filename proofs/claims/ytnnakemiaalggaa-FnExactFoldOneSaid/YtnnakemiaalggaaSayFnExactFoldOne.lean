/- What is to be shown of the pure function of FnExactFoldOne, for all arguments that Go's types let; and that what reads as such an argument is one. -/
import Derived.Test.YtnnakemiaalggaaXFnExactFoldOnex5
import Derived.Test.YtnnakemiaalggaaOpens
namespace Go.Proofs.Ytnnakemiaalggaa.SayFnExactFoldOne
open Go.RowKit Go.ChangeShapes Go.WideShapes Go.Deep Go.Proofs.Ytnnakemiaalggaa.Opens Go.Proofs.Ytnnakemiaalggaa.XFnExactFoldOne Go.Proofs.YtnnakemiaalggaaW.PrintWords Go.Proofs.YtnnakemiaalggaaW.PrintLast Go.Proofs.YtnnakemiaalggaaW.PrintMore
set_option linter.unusedVariables false
set_option linter.unusedSimpArgs false

theorem opens3 : Opens Try.prog 3 (Kd.int .i64) Num := opens_i64 Try.underlying3
def K33 : Kd (Int × (Int × (Int × (Int × Int)))) := (Kd.pair (Kd.int .i64) (Kd.pair (Kd.int .i64) (Kd.pair (Kd.int .i64) (Kd.pair (Kd.int .i64) (Kd.int .i64)))))
def P33 (x : (Int × (Int × (Int × (Int × Int))))) : Prop := Num x.1 ∧ Num x.2.1 ∧ Num x.2.2.1 ∧ Num x.2.2.2.1 ∧ Num x.2.2.2.2
theorem opens33 : Opens Try.prog 33 K33 P33 := fun H enc w s b f cs x h => by
  obtain ⟨xs, n, _, _, hl, hxl, hg⟩ := DataW.trod_struct Try.underlying33 h
  replace hl : cs.length = 5 := hl.trans (by kernel_rfl)
  replace hxl : xs.length = 5 := hxl
  match cs, hl with
  | [c0, c1, c2, c3, c4], _ =>
    have g0 := hg 0 _ rfl
    rw [List.getElem?_eq_getElem (by omega)] at g0
    replace g0 : DataW.trod enc Try.prog w 0 s b n 3 [c0] = some (xs[0]'(by omega)) := by
      refine Eq.trans ?_ g0
      show _ = DataW.trod enc Try.prog w 0 s b n 3 (List.take (Try.prog.cellsOf 3) (List.drop 0 [c0, c1, c2, c3, c4]))
      rw [show Try.prog.cellsOf 3 = 1 by kernel_rfl]
      rfl
    obtain ⟨y0, q0, r0⟩ := opens3 H enc w s b n _ _ g0
    have g1 := hg 1 _ rfl
    rw [List.getElem?_eq_getElem (by omega)] at g1
    replace g1 : DataW.trod enc Try.prog w 0 s b n 3 [c1] = some (xs[1]'(by omega)) := by
      refine Eq.trans ?_ g1
      show _ = DataW.trod enc Try.prog w 0 s b n 3 (List.take (Try.prog.cellsOf 3) (List.drop 1 [c0, c1, c2, c3, c4]))
      rw [show Try.prog.cellsOf 3 = 1 by kernel_rfl]
      rfl
    obtain ⟨y1, q1, r1⟩ := opens3 H enc w s b n _ _ g1
    have g2 := hg 2 _ rfl
    rw [List.getElem?_eq_getElem (by omega)] at g2
    replace g2 : DataW.trod enc Try.prog w 0 s b n 3 [c2] = some (xs[2]'(by omega)) := by
      refine Eq.trans ?_ g2
      show _ = DataW.trod enc Try.prog w 0 s b n 3 (List.take (Try.prog.cellsOf 3) (List.drop 2 [c0, c1, c2, c3, c4]))
      rw [show Try.prog.cellsOf 3 = 1 by kernel_rfl]
      rfl
    obtain ⟨y2, q2, r2⟩ := opens3 H enc w s b n _ _ g2
    have g3 := hg 3 _ rfl
    rw [List.getElem?_eq_getElem (by omega)] at g3
    replace g3 : DataW.trod enc Try.prog w 0 s b n 3 [c3] = some (xs[3]'(by omega)) := by
      refine Eq.trans ?_ g3
      show _ = DataW.trod enc Try.prog w 0 s b n 3 (List.take (Try.prog.cellsOf 3) (List.drop 3 [c0, c1, c2, c3, c4]))
      rw [show Try.prog.cellsOf 3 = 1 by kernel_rfl]
      rfl
    obtain ⟨y3, q3, r3⟩ := opens3 H enc w s b n _ _ g3
    have g4 := hg 4 _ rfl
    rw [List.getElem?_eq_getElem (by omega)] at g4
    replace g4 : DataW.trod enc Try.prog w 0 s b n 3 [c4] = some (xs[4]'(by omega)) := by
      refine Eq.trans ?_ g4
      show _ = DataW.trod enc Try.prog w 0 s b n 3 (List.take (Try.prog.cellsOf 3) (List.drop 4 [c0, c1, c2, c3, c4]))
      rw [show Try.prog.cellsOf 3 = 1 by kernel_rfl]
      rfl
    obtain ⟨y4, q4, r4⟩ := opens3 H enc w s b n _ _ g4
    exact ⟨⟨y0, y1, y2, y3, y4⟩, ⟨[c0], [c1, c2, c3, c4], rfl, q0, ⟨[c1], [c2, c3, c4], rfl, q1, ⟨[c2], [c3, c4], rfl, q2, ⟨[c3], [c4], rfl, q3, q4⟩⟩⟩⟩, r0, r1, r2, r3, r4⟩
theorem opens4 : Opens Try.prog 4 Kd.bool Any := opens_bool Try.underlying4
def P90 (x : S90) : Prop := Any x.f0 ∧ Num x.f1
theorem opens90 : Opens Try.prog 90 k90 P90 := fun H enc w s b f cs x h => by
  obtain ⟨xs, n, _, _, hl, hxl, hg⟩ := DataW.trod_struct Try.underlying90 h
  replace hl : cs.length = 2 := hl.trans (by kernel_rfl)
  replace hxl : xs.length = 2 := hxl
  match cs, hl with
  | [c0, c1], _ =>
    have g0 := hg 0 _ rfl
    rw [List.getElem?_eq_getElem (by omega)] at g0
    replace g0 : DataW.trod enc Try.prog w 0 s b n 4 [c0] = some (xs[0]'(by omega)) := by
      refine Eq.trans ?_ g0
      show _ = DataW.trod enc Try.prog w 0 s b n 4 (List.take (Try.prog.cellsOf 4) (List.drop 0 [c0, c1]))
      rw [show Try.prog.cellsOf 4 = 1 by kernel_rfl]
      rfl
    obtain ⟨y0, q0, r0⟩ := opens4 H enc w s b n _ _ g0
    have g1 := hg 1 _ rfl
    rw [List.getElem?_eq_getElem (by omega)] at g1
    replace g1 : DataW.trod enc Try.prog w 0 s b n 3 [c1] = some (xs[1]'(by omega)) := by
      refine Eq.trans ?_ g1
      show _ = DataW.trod enc Try.prog w 0 s b n 3 (List.take (Try.prog.cellsOf 3) (List.drop 1 [c0, c1]))
      rw [show Try.prog.cellsOf 3 = 1 by kernel_rfl]
      rfl
    obtain ⟨y1, q1, r1⟩ := opens3 H enc w s b n _ _ g1
    exact ⟨⟨y0, y1⟩, ⟨[c0], [c1], rfl, q0, q1⟩, r0, r1⟩
theorem opens61 : Opens Try.prog 61 (Kd.slice 90 k90) (Each P90) := opens_slice Try.underlying61 (by kernel_rfl) opens90
/-- The pure statement. -/
def Pure : Prop := ∀ (y0 : (Int × (Int × (Int × (Int × Int))))) (l1 : (List S90)) (a2 : Int), P33 y0 → (Each P90) l1 → Num a2 → ∃ k, laws_FnExactFoldOne.f k y0.1 y0.2.1 y0.2.2.1 y0.2.2.2.1 y0.2.2.2.2 l1 a2 = some true
end Go.Proofs.Ytnnakemiaalggaa.SayFnExactFoldOne
