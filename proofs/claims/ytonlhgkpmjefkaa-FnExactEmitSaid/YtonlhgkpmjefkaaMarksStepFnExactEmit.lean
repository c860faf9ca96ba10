/- What a mark of steps leaves, and that it is found so again; for all rows of up to a trillion. -/
import Derived.Test.YtonlhgkpmjefkaaXFnExactEmitx15
import Derived.Test.YtonlhgkpmjefkaaLib
namespace Go.Proofs.Ytonlhgkpmjefkaa.MarksStepFnExactEmit
open Go.RowKit Go.Proofs.Ytonlhgkpmjefkaa.XFnExactEmit Go.Proofs.Ytonlhgkpmjefkaa.Lib Go.Proofs.YtonlhgkpmjefkaaW.PrintWords Go.Proofs.YtonlhgkpmjefkaaW.PrintLast Go.Proofs.YtonlhgkpmjefkaaW.PrintMore
set_option linter.unusedVariables false
set_option linter.unusedSimpArgs false

def mStep (v : Int) : S46 := ⟨v, v + 1, v + 2, v + 3, v + 4⟩
def isStep (v : Int) (ys : List S46) : Prop := ∀ j : Nat, j < ys.length → ys.getD j z46 = mStep (v + 5 * (j : Int))
theorem markSteps_l (k0 : Int) (h0 : 0 ≤ k0) (hk : k0 ≤ 4611686018427387904) : ∀ (n i : Nat) (x : List S46), i + n = x.length → x.length ≤ 1099511627776 → (∀ j : Nat, j < i → x.getD j z46 = mStep (k0 + 5 * (j : Int))) → ∃ ys : List S46, Ev (fun k => laws_markStepS.l0 k x (k0 + 5 * (i : Int)) i) (k0 + 5 * (x.length : Int), ys) ∧ ys.length = x.length ∧ isStep k0 ys := by
  intro n
  induction n with
  | zero =>
    intro i x hi hl h
    refine ⟨x, Ev.step (f := fun _ => some (k0 + 5 * (x.length : Int), x)) (fun k => ?_) (ev_some rfl), rfl, fun j hj => h j (by omega)⟩
    simp only [laws_markStepS.l0]
    rw [if_neg (by omega), show i = x.length by omega]
  | succ n ih =>
    intro i x hi hl h
    obtain ⟨ys, hy, hyl, hm⟩ := ih (i + 1) (x.set i (mStep (k0 + 5 * (i : Int)))) (by simp; omega) (by simpa using hl) (fun j hj => by
      by_cases e : j = i
      · subst e
        exact L_set_self _ _ _ _ (by omega)
      · rw [L_set_ne _ _ _ _ _ (by omega)]
        exact h j (by omega))
    rw [List.length_set] at hy hyl
    refine ⟨ys, Ev.step (fun k => ?_) hy, hyl, hm⟩
    have e0 : wrap64 (k0 + 5 * (i : Int) + 1) = k0 + 5 * (i : Int) + 1 := w64 (by omega) (by omega)
    have e1 : wrap64 (k0 + 5 * (i : Int) + 1 + 1) = k0 + 5 * (i : Int) + 2 := by rw [w64 (by omega) (by omega)]; omega
    have e2 : wrap64 (k0 + 5 * (i : Int) + 2 + 1) = k0 + 5 * (i : Int) + 3 := by rw [w64 (by omega) (by omega)]; omega
    have e3 : wrap64 (k0 + 5 * (i : Int) + 3 + 1) = k0 + 5 * (i : Int) + 4 := by rw [w64 (by omega) (by omega)]; omega
    have e4 : wrap64 (k0 + 5 * (i : Int) + 4 + 1) = k0 + 5 * (i : Int) + 5 := by rw [w64 (by omega) (by omega)]; omega
    simp only [laws_markStepS.l0]
    rw [if_pos (by omega), if_pos (by omega), w64_nat (by omega)]
    simp only [Int.toNat_natCast, Option.bind_some, rd_T46, e0, e1, e2, e3, e4]
    rw [show k0 + 5 * ((i + 1 : Nat) : Int) = k0 + 5 * (i : Int) + 5 by omega]
    simp [mStep, List.getD_eq_getElem?_getD, List.set_set, show i < x.length by omega]
theorem markSteps_ev (k0 : Int) (h0 : 0 ≤ k0) (hk : k0 ≤ 4611686018427387904) (x : List S46) (hx : x.length ≤ 1099511627776) : ∃ ys : List S46, Ev (fun k => laws_markStepS.f k x k0) (k0 + 5 * (x.length : Int), ys) ∧ ys.length = x.length ∧ isStep k0 ys := by
  obtain ⟨ys, h, h2⟩ := markSteps_l k0 h0 hk x.length 0 x (by omega) hx (fun j hj => by omega)
  refine ⟨ys, ?_, h2⟩
  unfold laws_markStepS.f
  simpa using h
theorem heldSteps_l (v : Int) (h0 : 0 ≤ v) (hv : v ≤ 4611686018427387904) (x : List S46) (hx : x.length ≤ 1099511627776) (hm : isStep v x) : ∀ (n i : Nat), i + n = x.length → Ev (fun k => laws_heldStepS.l0 k x (v + 5 * (i : Int)) i) (v + 5 * (x.length : Int)) := by
  intro n
  induction n with
  | zero =>
    intro i hi
    refine Ev.step (f := fun _ => some (v + 5 * (x.length : Int))) (fun k => ?_) (ev_some rfl)
    simp only [laws_heldStepS.l0]
    rw [if_neg (by omega), show i = x.length by omega]
  | succ n ih =>
    intro i hi
    refine Ev.step (fun k => ?_) (ih (i + 1) (by omega))
    have hi' := hm i (by omega)
    have hrd : rd_T46 x (i : Int) = mStep (v + 5 * (i : Int)) := by
      unfold rd_T46
      rw [Int.toNat_natCast]
      exact hi'
    have e0 : wrap64 (v + 5 * (i : Int) + 1) = v + 5 * (i : Int) + 1 := w64 (by omega) (by omega)
    have e1 : wrap64 (v + 5 * (i : Int) + 1 + 1) = v + 5 * (i : Int) + 2 := by rw [w64 (by omega) (by omega)]; omega
    have e2 : wrap64 (v + 5 * (i : Int) + 2 + 1) = v + 5 * (i : Int) + 3 := by rw [w64 (by omega) (by omega)]; omega
    have e3 : wrap64 (v + 5 * (i : Int) + 3 + 1) = v + 5 * (i : Int) + 4 := by rw [w64 (by omega) (by omega)]; omega
    have e4 : wrap64 (v + 5 * (i : Int) + 4 + 1) = v + 5 * (i : Int) + 5 := by rw [w64 (by omega) (by omega)]; omega
    simp only [laws_heldStepS.l0, hrd, mStep, e0, e1, e2, e3, e4]
    rw [if_pos (by omega), if_pos (by omega), if_pos trivial, if_pos trivial, if_pos trivial, if_pos trivial, if_pos trivial, w64_nat (by omega)]
    rw [show v + 5 * ((i + 1 : Nat) : Int) = v + 5 * (i : Int) + 5 by omega]
theorem heldSteps_ev (v : Int) (h0 : 0 ≤ v) (hv : v ≤ 4611686018427387904) (x : List S46) (hx : x.length ≤ 1099511627776) (hm : isStep v x) : Ev (fun k => laws_heldStepS.f k x v) (v + 5 * (x.length : Int)) := by
  unfold laws_heldStepS.f
  simpa using heldSteps_l v h0 hv x hx hm x.length 0 (by omega)
end Go.Proofs.Ytonlhgkpmjefkaa.MarksStepFnExactEmit
