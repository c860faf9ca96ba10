/- What a mark of numbers leaves, and that it is found so again; for all rows of up to a trillion. -/
import Derived.Test.YtonlhgkpmjefkaaXFnExactEmitx15
import Derived.Test.YtonlhgkpmjefkaaLib
namespace Go.Proofs.Ytonlhgkpmjefkaa.MarksIntFnExactEmit
open Go.RowKit Go.Proofs.Ytonlhgkpmjefkaa.XFnExactEmit Go.Proofs.Ytonlhgkpmjefkaa.Lib Go.Proofs.YtonlhgkpmjefkaaW.PrintWords Go.Proofs.YtonlhgkpmjefkaaW.PrintLast Go.Proofs.YtonlhgkpmjefkaaW.PrintMore
set_option linter.unusedVariables false
set_option linter.unusedSimpArgs false

def isInts (v : Int) (ys : List Int) : Prop := ∀ j : Nat, j < ys.length → ys.getD j 0 = v + (j : Int)
theorem markInts_l (v : Int) (h0 : 0 ≤ v) (hv : v ≤ 4611686018427387904) : ∀ (n i : Nat) (x : List Int), i + n = x.length → x.length ≤ 1099511627776 → (∀ j : Nat, j < i → x.getD j 0 = v + (j : Int)) → ∃ ys : List Int, Ev (fun k => laws_markIntS.l0 k x (v + (i : Int)) i) (v + (x.length : Int), ys) ∧ ys.length = x.length ∧ isInts v ys := by
  intro n
  induction n with
  | zero =>
    intro i x hi hl h
    refine ⟨x, Ev.step (f := fun _ => some (v + (x.length : Int), x)) (fun k => ?_) (ev_some rfl), rfl, fun j hj => h j (by omega)⟩
    simp only [laws_markIntS.l0]
    rw [if_neg (by omega), show i = x.length by omega]
  | succ n ih =>
    intro i x hi hl h
    obtain ⟨ys, hy, hyl, hm⟩ := ih (i + 1) (x.set i (v + (i : Int))) (by simp; omega) (by simpa using hl) (fun j hj => by
      by_cases e : j = i
      · subst e
        exact L_set_self _ _ _ _ (by omega)
      · rw [L_set_ne _ _ _ _ _ (by omega)]
        exact h j (by omega))
    rw [List.length_set] at hy hyl
    refine ⟨ys, Ev.step (fun k => ?_) hy, hyl, hm⟩
    simp only [laws_markIntS.l0]
    rw [if_pos (by omega), if_pos (by omega), w64_nat (by omega), w64 (by omega) (by omega), Int.toNat_natCast]
    rw [show v + ((i + 1 : Nat) : Int) = v + (i : Int) + 1 by omega]
theorem markInts_ev (v : Int) (h0 : 0 ≤ v) (hv : v ≤ 4611686018427387904) (x : List Int) (hx : x.length ≤ 1099511627776) : ∃ ys : List Int, Ev (fun k => laws_markIntS.f k x v) (v + (x.length : Int), ys) ∧ ys.length = x.length ∧ isInts v ys := by
  obtain ⟨ys, h, h2⟩ := markInts_l v h0 hv x.length 0 x (by omega) hx (fun j hj => by omega)
  refine ⟨ys, ?_, h2⟩
  unfold laws_markIntS.f
  simpa using h
end Go.Proofs.Ytonlhgkpmjefkaa.MarksIntFnExactEmit
