/- The program's GetInt is the reference's, at all bytes and every place. -/
import Derived.Test.YtnnakemiaalggaaXFnExactGetIntx2
import Derived.Test.YtnnakemiaalggaaLib
import Derived.OpenShut
namespace Go.Proofs.Ytnnakemiaalggaa.Pure
open Go.RowKit Go.Proofs.Ytnnakemiaalggaa.XFnExactGetInt Go.Proofs.Ytnnakemiaalggaa.Lib Go.Proofs.YtnnakemiaalggaaW.PrintWords Go.Proofs.YtnnakemiaalggaaW.PrintLast Go.Proofs.YtnnakemiaalggaaW.PrintMore
set_option linter.unusedVariables false
set_option linter.unusedSimpArgs false

theorem toByteS_l (x : List Int) (hx : x.length ≤ 4611686018427387904) : ∀ (n i : Nat) (acc : List Int), i + n = x.length → acc.length = x.length → acc.take i = (x.take i).map id → Ev (fun k => laws_toByteS.l0 k x acc i) x := by
  intro n
  induction n with
  | zero =>
    intro i acc hi hl h
    refine Ev.step (f := fun _ => some acc) (fun k => ?_) (ev_some ?_)
    · simp only [laws_toByteS.l0]
      rw [if_neg (by omega)]
    · have := copy_end id x acc i (by omega) hl h
      simpa using this
  | succ n ih =>
    intro i acc hi hl h
    refine Ev.step (f := fun k => laws_toByteS.l0 k x (acc.set i (id (x.getD i 0))) ((i + 1 : Nat) : Int)) (fun k => ?_) (ih (i + 1) _ (by omega) (by simpa using hl) (copy_step id x acc i 0 (by omega) hl h))
    simp only [laws_toByteS.l0]
    rw [if_pos (by omega), if_pos (by omega), if_pos (by omega), w64_nat (by omega), Int.toNat_natCast]
    unfold rd
    rw [Int.toNat_natCast]
    rfl
theorem toByteS_ev (x : List Int) (hx : x.length ≤ 1099511627776) : Ev (fun k => laws_toByteS.f k x) x := by
  unfold laws_toByteS.f
  refine ev_pos (by omega) (ev_pos (by omega) ?_)
  exact toByteS_l x (by omega) x.length 0 _ (by omega) (by simp) (by simp)

theorem eqByteS_l (x : List Int) (hx : x.length ≤ 4611686018427387904) : ∀ (n i : Nat), i + n = x.length → Ev (fun k => laws_eqByteS.l0 k x x i) true := by
  intro n
  induction n with
  | zero =>
    intro i hi
    refine Ev.step (f := fun _ => some true) (fun k => ?_) (ev_some rfl)
    simp only [laws_eqByteS.l0]
    rw [if_neg (by omega)]
  | succ n ih =>
    intro i hi
    refine Ev.step (fun k => ?_) (ih (i + 1) (by omega))
    simp only [laws_eqByteS.l0]
    rw [if_pos (by omega), if_pos (by omega), if_pos (by omega), if_pos trivial, w64_nat (by omega)]
theorem eqByteS_ev (x : List Int) (hx : x.length ≤ 1099511627776) : Ev (fun k => laws_eqByteS.f k x x) true := by
  unfold laws_eqByteS.f
  exact ev_pos rfl (eqByteS_l x (by omega) x.length 0 (by omega))

theorem spec_rounds (x : List Int) (a : Int) (h0 : 0 ≤ a) (h1 : a + 9 ≤ (x.length : Int)) (hl : x.length ≤ 1099511627776) : ∀ (m j : Nat), j + m = 8 → Ev (fun k => spec_GetInt.l0 k x a (getAcc x a j) ((j + 1 : Nat) : Int)) (if rd x a = 1 then wrap64 (-1 - getAcc x a 8) else getAcc x a 8, a + 9, true) := by
  intro m
  induction m with
  | zero =>
    intro j hj
    have : j = 8 := by omega
    subst this
    refine Ev.step (f := fun _ => some (if rd x a = 1 then wrap64 (-1 - getAcc x a 8) else getAcc x a 8, a + 9, true)) (fun k => ?_) (ev_some rfl)
    simp only [spec_GetInt.l0]
    rw [if_neg (by omega), if_pos h0, if_pos (by omega), w64 (x := a + 9) (by omega) (by omega)]
    by_cases c : rd x a = 1
    · rw [if_pos c, if_pos c]
    · rw [if_neg c, if_neg c]
  | succ m ih =>
    intro j hj
    refine Ev.step (fun k => ?_) (ih (j + 1) (by omega))
    simp only [spec_GetInt.l0]
    rw [if_pos (by omega), w64_nat (by omega), w64 (x := a + ((j + 1 : Nat) : Int)) (by omega) (by omega), if_pos (by omega), if_pos (by omega)]
    rw [show a + ((j + 1 : Nat) : Int) = a + 1 + (j : Int) by omega]
    rfl
theorem spec_get (x : List Int) (a : Int) (hl : x.length ≤ 1099511627776) : Ev (fun k => spec_GetInt.f k x a) (getG x a) := by
  have away : Ev (fun k => spec_GetInt.j0 k x a true) (0, 0, false) := Ev.step (f := fun _ => some (0, 0, false)) (fun k => by simp only [spec_GetInt.j0]; rfl) (ev_some rfl)
  have bad : getBad x a → getG x a = (0, 0, false) := fun h => by unfold getG; rw [if_pos h]
  unfold spec_GetInt.f
  by_cases c1 : a < 0
  · rw [bad (.inl c1)]
    exact ev_pos c1 away
  have e9 : wrap64 ((x.length : Int) - 9) = (x.length : Int) - 9 := w64 (by omega) (by omega)
  rw [e9]
  by_cases c2 : a > (x.length : Int) - 9
  · rw [bad (.inr (.inl c2))]
    exact ev_neg c1 (ev_pos c2 away)
  by_cases c3 : rd x a > 1
  · rw [bad (.inr (.inr (.inl c3)))]
    exact ev_neg c1 (ev_neg c2 (ev_pos (by omega) (ev_pos (by omega) (ev_pos c3 away))))
  have e1 : wrap64 (a + 1) = a + 1 := w64 (by omega) (by omega)
  rw [e1]
  refine ev_neg c1 (ev_neg c2 (ev_pos (by omega) (ev_pos (by omega) (ev_neg c3 (ev_pos (by omega) (ev_pos (by omega) ?_))))))
  by_cases c4 : rd x (a + 1) > 127
  · rw [bad (.inr (.inr (.inr c4))), decide_eq_true c4]
    exact away
  · have hg : getG x a = (if rd x a = 1 then wrap64 (-1 - getAcc x a 8) else getAcc x a 8, a + 9, true) := by
      unfold getG
      rw [if_neg (fun h => by rcases h with h | h | h | h; exact c1 h; exact c2 h; exact c3 h; exact c4 h)]
    rw [hg, decide_eq_false c4]
    refine Ev.step (fun k => by simp only [spec_GetInt.j0]; rfl) (ev_neg (by decide) ?_)
    exact spec_rounds x a (by omega) (by omega) hl 8 0 (by omega)
theorem FnExactGetInt : laws_FnExactGetInt.Pure := by
  intro x a _ _ hx ha
  refine Ev.rounds ?_
  unfold laws_FnExactGetInt.f
  refine ev_ite (fun _ => ev_some rfl) (fun c => ?_)
  have hl : x.length ≤ 1099511627776 := by omega
  refine Ev.bind (toByteS_ev x hl) (Ev.bind (spec_get x a hl) (Ev.bind (toByteS_ev x hl) (ev_bind0 (show impl_GetInt.f x a = some (getG x a) from rfl) ?_)))
  refine ev_pos rfl (ev_pos rfl ?_)
  rw [show ((getG x a).2.2 != (getG x a).2.2) = false by simp]
  refine Ev.step (fun k => by simp only [laws_FnExactGetInt.j0]; rfl) (ev_neg (by decide) ?_)
  exact Ev.bind (toByteS_ev x hl) (Ev.bind (eqByteS_ev x hl) (ev_pos rfl (ev_some rfl)))

end Go.Proofs.Ytnnakemiaalggaa.Pure
