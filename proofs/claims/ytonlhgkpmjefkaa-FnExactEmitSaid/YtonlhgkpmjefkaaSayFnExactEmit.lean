/- What is to be shown of the pure function of FnExactEmit, for all arguments that Go's types let; and that what reads as such an argument is one. -/
import Derived.Test.YtonlhgkpmjefkaaXFnExactEmitx15
import Derived.Test.YtonlhgkpmjefkaaOpens
namespace Go.Proofs.Ytonlhgkpmjefkaa.SayFnExactEmit
open Go.RowKit Go.ChangeShapes Go.WideShapes Go.Deep Go.Proofs.Ytonlhgkpmjefkaa.Opens Go.Proofs.Ytonlhgkpmjefkaa.XFnExactEmit Go.Proofs.YtonlhgkpmjefkaaW.PrintWords Go.Proofs.YtonlhgkpmjefkaaW.PrintLast Go.Proofs.YtonlhgkpmjefkaaW.PrintMore
set_option linter.unusedVariables false
set_option linter.unusedSimpArgs false

theorem opens3 : Opens Try.prog 3 (Kd.int .i64) Num := opens_i64 Try.underlying3
theorem cells3 : Try.prog.cellsOf 3 = 1 := by kernel_rfl
theorem opens22 : Opens Try.prog 22 (Kd.slice 3 (Kd.int .i64)) (Each Num) := opens_slice Try.underlying22 cells3 opens3
theorem cells82 : Try.prog.cellsOf 82 = 5 := by kernel_rfl
def K82 : Kd (Int × (Int × (Int × (Int × Int)))) := (Kd.pair (Kd.int .i64) (Kd.pair (Kd.int .i64) (Kd.pair (Kd.int .i64) (Kd.pair (Kd.int .i64) (Kd.int .i64)))))
def P82 (x : (Int × (Int × (Int × (Int × Int))))) : Prop := Num x.1 ∧ Num x.2.1 ∧ Num x.2.2.1 ∧ Num x.2.2.2.1 ∧ Num x.2.2.2.2
set_option maxRecDepth 100000 in
theorem opens82 : Opens Try.prog 82 K82 P82 := fun H enc w s b f cs x h => by
  obtain ⟨xs, n, _, _, hl, hxl, hg⟩ := DataW.trod_struct Try.underlying82 h
  replace hl : cs.length = 5 := hl.trans cells82
  replace hxl : xs.length = 5 := hxl
  match cs, hl with
  | [c0, c1, c2, c3, c4], _ =>
    have g0 := hg 0 _ rfl
    rw [List.getElem?_eq_getElem (by omega)] at g0
    replace g0 : DataW.trod enc Try.prog w 0 s b n 3 [c0] = some (xs[0]'(by omega)) := by
      refine Eq.trans ?_ g0
      show _ = DataW.trod enc Try.prog w 0 s b n 3 (List.take (Try.prog.cellsOf 3) (List.drop 0 [c0, c1, c2, c3, c4]))
      rw [cells3]
      rfl
    obtain ⟨y0, q0, r0⟩ := opens3 H enc w s b n _ _ g0
    have g1 := hg 1 _ rfl
    rw [List.getElem?_eq_getElem (by omega)] at g1
    replace g1 : DataW.trod enc Try.prog w 0 s b n 3 [c1] = some (xs[1]'(by omega)) := by
      refine Eq.trans ?_ g1
      show _ = DataW.trod enc Try.prog w 0 s b n 3 (List.take (Try.prog.cellsOf 3) (List.drop 1 [c0, c1, c2, c3, c4]))
      rw [cells3]
      rfl
    obtain ⟨y1, q1, r1⟩ := opens3 H enc w s b n _ _ g1
    have g2 := hg 2 _ rfl
    rw [List.getElem?_eq_getElem (by omega)] at g2
    replace g2 : DataW.trod enc Try.prog w 0 s b n 3 [c2] = some (xs[2]'(by omega)) := by
      refine Eq.trans ?_ g2
      show _ = DataW.trod enc Try.prog w 0 s b n 3 (List.take (Try.prog.cellsOf 3) (List.drop 2 [c0, c1, c2, c3, c4]))
      rw [cells3]
      rfl
    obtain ⟨y2, q2, r2⟩ := opens3 H enc w s b n _ _ g2
    have g3 := hg 3 _ rfl
    rw [List.getElem?_eq_getElem (by omega)] at g3
    replace g3 : DataW.trod enc Try.prog w 0 s b n 3 [c3] = some (xs[3]'(by omega)) := by
      refine Eq.trans ?_ g3
      show _ = DataW.trod enc Try.prog w 0 s b n 3 (List.take (Try.prog.cellsOf 3) (List.drop 3 [c0, c1, c2, c3, c4]))
      rw [cells3]
      rfl
    obtain ⟨y3, q3, r3⟩ := opens3 H enc w s b n _ _ g3
    have g4 := hg 4 _ rfl
    rw [List.getElem?_eq_getElem (by omega)] at g4
    replace g4 : DataW.trod enc Try.prog w 0 s b n 3 [c4] = some (xs[4]'(by omega)) := by
      refine Eq.trans ?_ g4
      show _ = DataW.trod enc Try.prog w 0 s b n 3 (List.take (Try.prog.cellsOf 3) (List.drop 4 [c0, c1, c2, c3, c4]))
      rw [cells3]
      rfl
    obtain ⟨y4, q4, r4⟩ := opens3 H enc w s b n _ _ g4
    exact ⟨⟨y0, y1, y2, y3, y4⟩, ⟨[c0], [c1, c2, c3, c4], rfl, q0, ⟨[c1], [c2, c3, c4], rfl, q1, ⟨[c2], [c3, c4], rfl, q2, ⟨[c3], [c4], rfl, q3, q4⟩⟩⟩⟩, r0, r1, r2, r3, r4⟩
/-- The pure statement. -/
def Pure : Prop := ∀ (l0 : (List Int)) (y1 : (Int × (Int × (Int × (Int × Int))))) (a2 : Int) (l3 : (List Int)), (Each Num) l0 → P82 y1 → Num a2 → (Each Num) l3 → ∃ k, laws_FnExactEmit.f k l0 y1.1 y1.2.1 y1.2.2.1 y1.2.2.2.1 y1.2.2.2.2 a2 l3 = some true
end Go.Proofs.Ytonlhgkpmjefkaa.SayFnExactEmit
