/- What a mark of places leaves, and that it is found so again; for all rows of up to a trillion. -/
import Derived.Test.YtocimkpafakiaaaXFnExactFoldBodyx19
import Derived.Test.YtocimkpafakiaaaLib
namespace Go.Proofs.Ytocimkpafakiaaa.MarksInsFnExactFoldBody
open Go.RowKit Go.Proofs.Ytocimkpafakiaaa.XFnExactFoldBody Go.Proofs.Ytocimkpafakiaaa.Lib Go.Proofs.YtocimkpafakiaaaW.PrintWords Go.Proofs.YtocimkpafakiaaaW.PrintLast Go.Proofs.YtocimkpafakiaaaW.PrintMore
set_option linter.unusedVariables false
set_option linter.unusedSimpArgs false

def mIns (v : Int) : S63 := ⟨v, v + 1, v + 2, v + 3, v + 4⟩
def isIns (v : Int) (ys : List S63) : Prop := ∀ j : Nat, j < ys.length → ys.getD j z63 = mIns (v + 5 * (j : Int))
theorem markIns_l (k0 : Int) (h0 : 0 ≤ k0) (hk : k0 ≤ 4611686018427387904) : ∀ (n i : Nat) (x : List S63), i + n = x.length → x.length ≤ 1099511627776 → (∀ j : Nat, j < i → x.getD j z63 = mIns (k0 + 5 * (j : Int))) → ∃ ys : List S63, Ev (fun k => laws_markInsS.l0 k x (k0 + 5 * (i : Int)) i) (k0 + 5 * (x.length : Int), ys) ∧ ys.length = x.length ∧ isIns k0 ys := by
  intro n
  induction n with
  | zero =>
    intro i x hi hl h
    refine ⟨x, Ev.step (f := fun _ => some (k0 + 5 * (x.length : Int), x)) (fun k => ?_) (ev_some rfl), rfl, fun j hj => h j (by omega)⟩
    simp only [laws_markInsS.l0]
    rw [if_neg (by omega), show i = x.length by omega]
  | succ n ih =>
    intro i x hi hl h
    obtain ⟨ys, hy, hyl, hm⟩ := ih (i + 1) (x.set i (mIns (k0 + 5 * (i : Int)))) (by simp; omega) (by simpa using hl) (fun j hj => by
      by_cases e : j = i
      · subst e
        exact L_set_self _ _ _ _ (by omega)
      · rw [L_set_ne _ _ _ _ _ (by omega)]
        exact h j (by omega))
    rw [List.length_set] at hy hyl
    refine ⟨ys, Ev.step (fun k => ?_) hy, hyl, hm⟩
    have e0 : wrap64 (k0 + 5 * (i : Int) + 1) = k0 + 5 * (i : Int) + 1 := w64 (by omega) (by omega)
    have e1 : wrap64 (k0 + 5 * (i : Int) + 1 + 1) = k0 + 5 * (i : Int) + 2 := by rw [w64 (by omega) (by omega)]; omega
    have e2 : wrap64 (k0 + 5 * (i : Int) + 2 + 1) = k0 + 5 * (i : Int) + 3 := by rw [w64 (by omega) (by omega)]; omega
    have e3 : wrap64 (k0 + 5 * (i : Int) + 3 + 1) = k0 + 5 * (i : Int) + 4 := by rw [w64 (by omega) (by omega)]; omega
    have e4 : wrap64 (k0 + 5 * (i : Int) + 4 + 1) = k0 + 5 * (i : Int) + 5 := by rw [w64 (by omega) (by omega)]; omega
    simp only [laws_markInsS.l0]
    rw [if_pos (by omega), if_pos (by omega), w64_nat (by omega)]
    simp only [Int.toNat_natCast, Option.bind_some, rd_T63, e0, e1, e2, e3, e4]
    rw [show k0 + 5 * ((i + 1 : Nat) : Int) = k0 + 5 * (i : Int) + 5 by omega]
    simp [mIns, List.getD_eq_getElem?_getD, List.set_set, show i < x.length by omega]
theorem markIns_ev (k0 : Int) (h0 : 0 ≤ k0) (hk : k0 ≤ 4611686018427387904) (x : List S63) (hx : x.length ≤ 1099511627776) : ∃ ys : List S63, Ev (fun k => laws_markInsS.f k x k0) (k0 + 5 * (x.length : Int), ys) ∧ ys.length = x.length ∧ isIns k0 ys := by
  obtain ⟨ys, h, h2⟩ := markIns_l k0 h0 hk x.length 0 x (by omega) hx (fun j hj => by omega)
  refine ⟨ys, ?_, h2⟩
  unfold laws_markInsS.f
  simpa using h
theorem heldIns_l (v : Int) (h0 : 0 ≤ v) (hv : v ≤ 4611686018427387904) (x : List S63) (hx : x.length ≤ 1099511627776) (hm : isIns v x) : ∀ (n i : Nat), i + n = x.length → Ev (fun k => laws_heldInsS.l0 k x (v + 5 * (i : Int)) i) (v + 5 * (x.length : Int)) := by
  intro n
  induction n with
  | zero =>
    intro i hi
    refine Ev.step (f := fun _ => some (v + 5 * (x.length : Int))) (fun k => ?_) (ev_some rfl)
    simp only [laws_heldInsS.l0]
    rw [if_neg (by omega), show i = x.length by omega]
  | succ n ih =>
    intro i hi
    refine Ev.step (fun k => ?_) (ih (i + 1) (by omega))
    have hi' := hm i (by omega)
    have hrd : rd_T63 x (i : Int) = mIns (v + 5 * (i : Int)) := by
      unfold rd_T63
      rw [Int.toNat_natCast]
      exact hi'
    have e0 : wrap64 (v + 5 * (i : Int) + 1) = v + 5 * (i : Int) + 1 := w64 (by omega) (by omega)
    have e1 : wrap64 (v + 5 * (i : Int) + 1 + 1) = v + 5 * (i : Int) + 2 := by rw [w64 (by omega) (by omega)]; omega
    have e2 : wrap64 (v + 5 * (i : Int) + 2 + 1) = v + 5 * (i : Int) + 3 := by rw [w64 (by omega) (by omega)]; omega
    have e3 : wrap64 (v + 5 * (i : Int) + 3 + 1) = v + 5 * (i : Int) + 4 := by rw [w64 (by omega) (by omega)]; omega
    have e4 : wrap64 (v + 5 * (i : Int) + 4 + 1) = v + 5 * (i : Int) + 5 := by rw [w64 (by omega) (by omega)]; omega
    simp only [laws_heldInsS.l0, hrd, mIns, e0, e1, e2, e3, e4]
    rw [if_pos (by omega), if_pos (by omega), if_pos trivial, if_pos trivial, if_pos trivial, if_pos trivial, if_pos trivial, w64_nat (by omega)]
    rw [show v + 5 * ((i + 1 : Nat) : Int) = v + 5 * (i : Int) + 5 by omega]
theorem heldIns_ev (v : Int) (h0 : 0 ≤ v) (hv : v ≤ 4611686018427387904) (x : List S63) (hx : x.length ≤ 1099511627776) (hm : isIns v x) : Ev (fun k => laws_heldInsS.f k x v) (v + 5 * (x.length : Int)) := by
  unfold laws_heldInsS.f
  simpa using heldIns_l v h0 hv x hx hm x.length 0 (by omega)
end Go.Proofs.Ytocimkpafakiaaa.MarksInsFnExactFoldBody
