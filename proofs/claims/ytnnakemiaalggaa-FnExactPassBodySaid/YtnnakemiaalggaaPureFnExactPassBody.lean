/- The program's PassBody is the reference's, at all numbers. -/
import Derived.Test.YtnnakemiaalggaaPFnExactPassBodyx2
import Derived.Test.YtnnakemiaalggaaLib
import Derived.OpenShut
namespace Go.Proofs.Ytnnakemiaalggaa.Pure
open Go.RowKit Go.Proofs.Ytnnakemiaalggaa.PFnExactPassBody Go.Proofs.Ytnnakemiaalggaa.Lib Go.Proofs.YtnnakemiaalggaaW.PrintWords Go.Proofs.YtnnakemiaalggaaW.PrintLast Go.Proofs.YtnnakemiaalggaaW.PrintMore
set_option linter.unusedVariables false
set_option linter.unusedSimpArgs false

theorem eqInsS_l (x : List S35) (hx : x.length ≤ 4611686018427387904) : ∀ (n i : Nat), i + n = x.length → Ev (fun k => laws_eqInsS.l0 k x x i) true := by
  intro n
  induction n with
  | zero =>
    intro i hi
    refine Ev.step (f := fun _ => some true) (fun k => ?_) (ev_some rfl)
    simp only [laws_eqInsS.l0]
    rw [if_neg (by omega)]
  | succ n ih =>
    intro i hi
    refine Ev.step (fun k => ?_) (ih (i + 1) (by omega))
    simp only [laws_eqInsS.l0]
    rw [if_pos (by omega), if_pos (by omega), if_pos (by omega), w64_nat (by omega)]
    simp [laws_eqIns.f]
theorem eqInsS_ev (x : List S35) (hx : x.length ≤ 1099511627776) : Ev (fun k => laws_eqInsS.f k x x) true := by
  unfold laws_eqInsS.f
  exact ev_pos rfl (eqInsS_l x (by omega) x.length 0 (by omega))

def markInsS_is (k0 : Int) (ys : List S35) : Prop := ∀ j : Nat, j < ys.length → ys.getD j z35 = (⟨k0 + 5 * (j : Int), k0 + 5 * (j : Int) + 1, k0 + 5 * (j : Int) + 2, k0 + 5 * (j : Int) + 3, k0 + 5 * (j : Int) + 4⟩ : S35)
theorem markInsS_l (k0 : Int) (h0 : 0 ≤ k0) (hk : k0 ≤ 4611686018427387904) : ∀ (n i : Nat) (x : List S35), i + n = x.length → x.length ≤ 1099511627776 → (∀ j : Nat, j < i → x.getD j z35 = (⟨k0 + 5 * (j : Int), k0 + 5 * (j : Int) + 1, k0 + 5 * (j : Int) + 2, k0 + 5 * (j : Int) + 3, k0 + 5 * (j : Int) + 4⟩ : S35)) → ∃ ys : List S35, Ev (fun k => laws_markInsS.l0 k x (k0 + 5 * (i : Int)) i) (k0 + 5 * (x.length : Int), ys) ∧ ys.length = x.length ∧ markInsS_is k0 ys := by
  intro n
  induction n with
  | zero =>
    intro i x hi hl h
    refine ⟨x, Ev.step (f := fun _ => some (k0 + 5 * (x.length : Int), x)) (fun k => ?_) (ev_some rfl), rfl, fun j hj => h j (by omega)⟩
    simp only [laws_markInsS.l0]
    rw [if_neg (by omega), show i = x.length by omega]
  | succ n ih =>
    intro i x hi hl h
    obtain ⟨ys, hy, hyl, hm⟩ := ih (i + 1) (x.set i (⟨k0 + 5 * (i : Int), k0 + 5 * (i : Int) + 1, k0 + 5 * (i : Int) + 2, k0 + 5 * (i : Int) + 3, k0 + 5 * (i : Int) + 4⟩ : S35)) (by simp; omega) (by simpa using hl) (fun j hj => by
      by_cases e : j = i
      · subst e
        exact L_set_self _ _ _ _ (by omega)
      · rw [L_set_ne _ _ _ _ _ (by omega)]
        exact h j (by omega))
    rw [List.length_set] at hy hyl
    refine ⟨ys, Ev.step (fun k => ?_) hy, hyl, hm⟩
    have e0 : wrap64 (k0 + 5 * (i : Int) + 1) = k0 + 5 * (i : Int) + 1 := w64 (by omega) (by omega)
    have e1 : wrap64 (k0 + 5 * (i : Int) + 1 + 1) = k0 + 5 * (i : Int) + 2 := by rw [w64 (by omega) (by omega)]; omega
    have e2 : wrap64 (k0 + 5 * (i : Int) + 2 + 1) = k0 + 5 * (i : Int) + 3 := by rw [w64 (by omega) (by omega)]; omega
    have e3 : wrap64 (k0 + 5 * (i : Int) + 3 + 1) = k0 + 5 * (i : Int) + 4 := by rw [w64 (by omega) (by omega)]; omega
    have e4 : wrap64 (k0 + 5 * (i : Int) + 4 + 1) = k0 + 5 * (i : Int) + 5 := by rw [w64 (by omega) (by omega)]; omega
    simp only [laws_markInsS.l0]
    rw [if_pos (by omega), if_pos (by omega), w64_nat (by omega)]
    simp only [Int.toNat_natCast, Option.bind_some, rd_T35, e0, e1, e2, e3, e4]
    rw [show k0 + 5 * ((i + 1 : Nat) : Int) = k0 + 5 * (i : Int) + 5 by omega]
    simp [List.getD_eq_getElem?_getD, List.set_set, show i < x.length by omega]
theorem markInsS_ev (k0 : Int) (h0 : 0 ≤ k0) (hk : k0 ≤ 4611686018427387904) (x : List S35) (hx : x.length ≤ 1099511627776) : ∃ ys : List S35, Ev (fun k => laws_markInsS.f k x k0) (k0 + 5 * (x.length : Int), ys) ∧ ys.length = x.length ∧ markInsS_is k0 ys := by
  obtain ⟨ys, h, h2⟩ := markInsS_l k0 h0 hk x.length 0 x (by omega) hx (fun j hj => by omega)
  refine ⟨ys, ?_, h2⟩
  unfold laws_markInsS.f
  simpa using h
theorem heldInsS_l (k0 : Int) (h0 : 0 ≤ k0) (hk : k0 ≤ 4611686018427387904) (x : List S35) (hx : x.length ≤ 1099511627776) (hm : markInsS_is k0 x) : ∀ (n i : Nat), i + n = x.length → Ev (fun k => laws_heldInsS.l0 k x (k0 + 5 * (i : Int)) i) (k0 + 5 * (x.length : Int)) := by
  intro n
  induction n with
  | zero =>
    intro i hi
    refine Ev.step (f := fun _ => some (k0 + 5 * (x.length : Int))) (fun k => ?_) (ev_some rfl)
    simp only [laws_heldInsS.l0]
    rw [if_neg (by omega), show i = x.length by omega]
  | succ n ih =>
    intro i hi
    refine Ev.step (fun k => ?_) (ih (i + 1) (by omega))
    have hi' := hm i (by omega)
    have e0 : wrap64 (k0 + 5 * (i : Int) + 1) = k0 + 5 * (i : Int) + 1 := w64 (by omega) (by omega)
    have e1 : wrap64 (k0 + 5 * (i : Int) + 1 + 1) = k0 + 5 * (i : Int) + 2 := by rw [w64 (by omega) (by omega)]; omega
    have e2 : wrap64 (k0 + 5 * (i : Int) + 2 + 1) = k0 + 5 * (i : Int) + 3 := by rw [w64 (by omega) (by omega)]; omega
    have e3 : wrap64 (k0 + 5 * (i : Int) + 3 + 1) = k0 + 5 * (i : Int) + 4 := by rw [w64 (by omega) (by omega)]; omega
    have e4 : wrap64 (k0 + 5 * (i : Int) + 4 + 1) = k0 + 5 * (i : Int) + 5 := by rw [w64 (by omega) (by omega)]; omega
    simp only [laws_heldInsS.l0]
    rw [if_pos (by omega), if_pos (by omega), w64_nat (by omega)]
    simp only [rd_T35, Int.toNat_natCast, hi', e0, e1, e2, e3, e4, if_true]
    rw [show k0 + 5 * ((i + 1 : Nat) : Int) = k0 + 5 * (i : Int) + 5 by omega]
theorem heldInsS_ev (k0 : Int) (h0 : 0 ≤ k0) (hk : k0 ≤ 4611686018427387904) (x : List S35) (hx : x.length ≤ 1099511627776) (hm : markInsS_is k0 x) : Ev (fun k => laws_heldInsS.f k x k0) (k0 + 5 * (x.length : Int)) := by
  unfold laws_heldInsS.f
  simpa using heldInsS_l k0 h0 hk x hx hm x.length 0 (by omega)

theorem same (a : Int) (b : Int) : impl_PassBody.f a b = spec_PassBody.f a b := by
  rfl
theorem told (a : Int) (b : Int) : ∃ (l : List S35) (bb : Bool), spec_PassBody.f a b = some (l, bb) ∧ l.length ≤ 100 := by
  simp only [spec_PassBody.f, spec_l25Chan.f, spec_l1In.f]
  repeat' (first | exact ⟨_, _, rfl, by simp⟩ | (split) | (simp only [Option.bind_some]))
theorem FnExactPassBody : laws_FnExactPassBody.Pure := by
  intro a b _ _
  obtain ⟨l, bb, h, hl⟩ := told a b
  have h' := (same a b).trans h
  obtain ⟨ys, hm, hyl, his⟩ := markInsS_ev 1 (by omega) (by omega) l (by omega)
  have hh := heldInsS_ev 1 (by omega) (by omega) ys (by omega) his
  rw [hyl] at hh
  refine Ev.rounds ?_
  unfold laws_FnExactPassBody.f
  refine ev_bind0 h (ev_bind0 h' (Ev.bind (eqInsS_ev l (by omega)) (ev_pos rfl ?_)))
  have last : Ev (fun k => laws_FnExactPassBody.j1 k ys (1 + 5 * (l.length : Int)) false) true := by
    refine Ev.step (fun k => by simp only [laws_FnExactPassBody.j1]; rfl) ?_
    exact ev_neg (by simp) (Ev.bind hh (ev_neg (by omega) (ev_pos rfl (ev_some rfl))))
  rw [show ((l, bb).2 != (l, bb).2) = false by simp]
  refine Ev.step (fun k => by simp only [laws_FnExactPassBody.j0]; rfl) ?_
  refine ev_neg (by simp) (Ev.bind hm (Ev.bind hh (ev_neg (by omega) (ev_pos rfl (ev_bind0 h' (Ev.bind (eqInsS_ev l (by omega)) (ev_pos rfl ?_)))))))
  rw [show ((l, bb).2 != (l, bb).2) = false by simp]
  exact last

end Go.Proofs.Ytnnakemiaalggaa.Pure
