/- What is to be shown of the pure function of FnExactTrimProg, for all arguments that Go's types let; and that what reads as such an argument is one. -/
import Derived.Test.YtocimkpafakiaaaWalkFnExactTrimProg
import Derived.Test.YtocimkpafakiaaaOpens
namespace Go.Proofs.Ytocimkpafakiaaa.SayFnExactTrimProg
open Go.RowKit Go.ChangeShapes Go.WideShapes Go.Deep Go.Proofs.Ytocimkpafakiaaa.Opens Go.Proofs.Ytocimkpafakiaaa.XFnExactTrimProg Go.Proofs.YtocimkpafakiaaaW.PrintWords Go.Proofs.YtocimkpafakiaaaW.PrintLast Go.Proofs.YtocimkpafakiaaaW.PrintMore
set_option linter.unusedVariables false
set_option linter.unusedSimpArgs false

theorem opens3 : Opens Try.prog 3 (Kd.int .i64) Num := opens_i64 Try.underlying3
theorem cells3 : Try.prog.cellsOf 3 = 1 := by kernel_rfl
theorem opens34 : Opens Try.prog 34 (Kd.slice 3 (Kd.int .i64)) (Each Num) := opens_slice Try.underlying34 cells3 opens3
theorem cells34 : Try.prog.cellsOf 34 = 1 := by kernel_rfl
theorem cells65 : Try.prog.cellsOf 65 = 5 := by kernel_rfl
def P65 (x : S65) : Prop := Num x.f0 ∧ Num x.f1 ∧ Num x.f2 ∧ Num x.f3 ∧ Num x.f4
set_option maxRecDepth 100000 in
theorem opens65 : Opens Try.prog 65 k65 P65 := fun H enc w s b f cs x h => by
  obtain ⟨xs, n, _, _, hl, hxl, hg⟩ := DataW.trod_struct Try.underlying65 h
  replace hl : cs.length = 5 := hl.trans cells65
  replace hxl : xs.length = 5 := hxl
  match cs, hl with
  | [c0, c1, c2, c3, c4], _ =>
    have g0 := hg 0 _ rfl
    rw [List.getElem?_eq_getElem (by omega)] at g0
    replace g0 : DataW.trod enc Try.prog w 0 s b n 3 [c0] = some (xs[0]'(by omega)) := by
      refine Eq.trans ?_ g0
      show _ = DataW.trod enc Try.prog w 0 s b n 3 (List.take (Try.prog.cellsOf 3) (List.drop 0 [c0, c1, c2, c3, c4]))
      rw [cells3]
      rfl
    obtain ⟨y0, q0, r0⟩ := opens3 H enc w s b n _ _ g0
    have g1 := hg 1 _ rfl
    rw [List.getElem?_eq_getElem (by omega)] at g1
    replace g1 : DataW.trod enc Try.prog w 0 s b n 3 [c1] = some (xs[1]'(by omega)) := by
      refine Eq.trans ?_ g1
      show _ = DataW.trod enc Try.prog w 0 s b n 3 (List.take (Try.prog.cellsOf 3) (List.drop 1 [c0, c1, c2, c3, c4]))
      rw [cells3]
      rfl
    obtain ⟨y1, q1, r1⟩ := opens3 H enc w s b n _ _ g1
    have g2 := hg 2 _ rfl
    rw [List.getElem?_eq_getElem (by omega)] at g2
    replace g2 : DataW.trod enc Try.prog w 0 s b n 3 [c2] = some (xs[2]'(by omega)) := by
      refine Eq.trans ?_ g2
      show _ = DataW.trod enc Try.prog w 0 s b n 3 (List.take (Try.prog.cellsOf 3) (List.drop 2 [c0, c1, c2, c3, c4]))
      rw [cells3]
      rfl
    obtain ⟨y2, q2, r2⟩ := opens3 H enc w s b n _ _ g2
    have g3 := hg 3 _ rfl
    rw [List.getElem?_eq_getElem (by omega)] at g3
    replace g3 : DataW.trod enc Try.prog w 0 s b n 3 [c3] = some (xs[3]'(by omega)) := by
      refine Eq.trans ?_ g3
      show _ = DataW.trod enc Try.prog w 0 s b n 3 (List.take (Try.prog.cellsOf 3) (List.drop 3 [c0, c1, c2, c3, c4]))
      rw [cells3]
      rfl
    obtain ⟨y3, q3, r3⟩ := opens3 H enc w s b n _ _ g3
    have g4 := hg 4 _ rfl
    rw [List.getElem?_eq_getElem (by omega)] at g4
    replace g4 : DataW.trod enc Try.prog w 0 s b n 3 [c4] = some (xs[4]'(by omega)) := by
      refine Eq.trans ?_ g4
      show _ = DataW.trod enc Try.prog w 0 s b n 3 (List.take (Try.prog.cellsOf 3) (List.drop 4 [c0, c1, c2, c3, c4]))
      rw [cells3]
      rfl
    obtain ⟨y4, q4, r4⟩ := opens3 H enc w s b n _ _ g4
    exact ⟨⟨y0, y1, y2, y3, y4⟩, ⟨[c0], [c1, c2, c3, c4], rfl, q0, ⟨[c1], [c2, c3, c4], rfl, q1, ⟨[c2], [c3, c4], rfl, q2, ⟨[c3], [c4], rfl, q3, q4⟩⟩⟩⟩, r0, r1, r2, r3, r4⟩
theorem opens22 : Opens Try.prog 22 (Kd.slice 65 k65) (Each P65) := opens_slice Try.underlying22 cells65 opens65
theorem cells22 : Try.prog.cellsOf 22 = 1 := by kernel_rfl
theorem opens50 : Opens Try.prog 50 (Kd.slice 22 (Kd.slice 65 k65)) (Each (Each P65)) := opens_slice Try.underlying50 cells22 opens22
theorem cells50 : Try.prog.cellsOf 50 = 1 := by kernel_rfl
theorem cells52 : Try.prog.cellsOf 52 = 2 := by kernel_rfl
def K52 : Kd ((List Int) × (List (List S65))) := (Kd.pair (Kd.slice 3 (Kd.int .i64)) (Kd.slice 22 (Kd.slice 65 k65)))
def P52 (x : ((List Int) × (List (List S65)))) : Prop := (Each Num) x.1 ∧ (Each (Each P65)) x.2
set_option maxRecDepth 100000 in
theorem opens52 : Opens Try.prog 52 K52 P52 := fun H enc w s b f cs x h => by
  obtain ⟨xs, n, _, _, hl, hxl, hg⟩ := DataW.trod_struct Try.underlying52 h
  replace hl : cs.length = 2 := hl.trans cells52
  replace hxl : xs.length = 2 := hxl
  match cs, hl with
  | [c0, c1], _ =>
    have g0 := hg 0 _ rfl
    rw [List.getElem?_eq_getElem (by omega)] at g0
    replace g0 : DataW.trod enc Try.prog w 0 s b n 34 [c0] = some (xs[0]'(by omega)) := by
      refine Eq.trans ?_ g0
      show _ = DataW.trod enc Try.prog w 0 s b n 34 (List.take (Try.prog.cellsOf 34) (List.drop 0 [c0, c1]))
      rw [cells34]
      rfl
    obtain ⟨y0, q0, r0⟩ := opens34 H enc w s b n _ _ g0
    have g1 := hg 1 _ rfl
    rw [List.getElem?_eq_getElem (by omega)] at g1
    replace g1 : DataW.trod enc Try.prog w 0 s b n 50 [c1] = some (xs[1]'(by omega)) := by
      refine Eq.trans ?_ g1
      show _ = DataW.trod enc Try.prog w 0 s b n 50 (List.take (Try.prog.cellsOf 50) (List.drop 1 [c0, c1]))
      rw [cells50]
      rfl
    obtain ⟨y1, q1, r1⟩ := opens50 H enc w s b n _ _ g1
    exact ⟨⟨y0, y1⟩, ⟨[c0], [c1], rfl, q0, q1⟩, r0, r1⟩
/-- The pure statement. -/
def Pure : Prop := ∀ (y0 : ((List Int) × (List (List S65)))), P52 y0 → ∃ k, laws_FnExactTrimProg.f k y0.1 y0.2 = some true
end Go.Proofs.Ytocimkpafakiaaa.SayFnExactTrimProg
