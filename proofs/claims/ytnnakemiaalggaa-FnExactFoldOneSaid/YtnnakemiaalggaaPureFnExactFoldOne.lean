/- The program's FoldOne is the reference's, at every place, at all that may be known. -/
import Derived.Test.YtnnakemiaalggaaSayFnExactFoldOne
import Derived.Test.YtnnakemiaalggaaLib
namespace Go.Proofs.Ytnnakemiaalggaa.Pure
open Go.RowKit Go.Proofs.Ytnnakemiaalggaa.XFnExactFoldOne Go.Proofs.Ytnnakemiaalggaa.Lib Go.Proofs.Ytnnakemiaalggaa.Opens Go.Proofs.YtnnakemiaalggaaW.PrintWords Go.Proofs.YtnnakemiaalggaaW.PrintLast Go.Proofs.YtnnakemiaalggaaW.PrintMore
open Go.Proofs.Ytnnakemiaalggaa
set_option linter.unusedVariables false
set_option linter.unusedSimpArgs false

def conv (x : S90) : S87 := ⟨x.f0, x.f1⟩
theorem toKnownS_l (x : List S90) (hx : x.length ≤ 4611686018427387904) : ∀ (n i : Nat) (acc : List S87), i + n = x.length → acc.length = x.length → acc.take i = (x.take i).map conv → Ev (fun k => laws_toKnownS.l0 k x acc i) (x.map conv) := by
  intro n
  induction n with
  | zero =>
    intro i acc hi hl h
    refine Ev.step (f := fun _ => some acc) (fun k => ?_) (ev_some (copy_end conv x acc i (by omega) hl h))
    simp only [laws_toKnownS.l0]
    rw [if_neg (by omega)]
  | succ n ih =>
    intro i acc hi hl h
    refine Ev.step (f := fun k => laws_toKnownS.l0 k x (acc.set i (conv (x.getD i z90))) ((i + 1 : Nat) : Int)) (fun k => ?_) (ih (i + 1) _ (by omega) (by simpa using hl) (copy_step conv x acc i z90 (by omega) hl h))
    simp only [laws_toKnownS.l0]
    rw [if_pos (by omega), if_pos (by omega), w64_nat (by omega), Int.toNat_natCast]
    simp only [laws_toKnown.f, Option.bind_some]
    rw [if_pos (by omega)]
    unfold rd_T90
    rw [Int.toNat_natCast]
    rfl
theorem toKnownS_ev (x : List S90) (hx : x.length ≤ 1048576) : Ev (fun k => laws_toKnownS.f k x) (x.map conv) := by
  unfold laws_toKnownS.f
  refine ev_pos (by omega) (ev_pos (by omega) ?_)
  exact toKnownS_l x (by omega) x.length 0 _ (by omega) (by simp) (by simp)
theorem eqKnownS_l (x : List S87) (hx : x.length ≤ 1048576) : ∀ (n i : Nat), i + n = x.length → Ev (fun k => laws_eqKnownS.l0 k x x i) true := by
  intro n
  induction n with
  | zero =>
    intro i hi
    refine Ev.step (f := fun _ => some true) (fun k => ?_) (ev_some rfl)
    simp only [laws_eqKnownS.l0]
    rw [if_neg (by omega)]
  | succ n ih =>
    intro i hi
    refine Ev.step (fun k => ?_) (ih (i + 1) (by omega))
    simp only [laws_eqKnownS.l0]
    rw [if_pos (by omega), if_pos (by omega), if_pos (by omega), w64_nat (by omega)]
    simp [laws_eqKnown.f]
theorem eqKnownS_ev (x : List S87) (hx : x.length ≤ 1048576) : Ev (fun k => laws_eqKnownS.f k x x) true := by
  unfold laws_eqKnownS.f
  exact ev_pos rfl (eqKnownS_l x (by omega) x.length 0 (by omega))

theorem specOf (op a b : Int) : spec_l19Of.f op a b = some (foComp op a b) := by
  unfold spec_l19Of.f foComp spec_l4Bit.f
  by_cases h2 : op = 2
  · rw [if_pos h2, if_pos h2]
  rw [if_neg h2, if_neg h2]
  by_cases h3 : op = 3
  · rw [if_pos h3, if_pos h3]
  rw [if_neg h3, if_neg h3]
  by_cases h : a < b <;> simp [h]
theorem specIn (a lo hi : Int) : spec_l1In.f a lo hi = some (decide (lo ≤ a ∧ a ≤ hi)) := by
  unfold spec_l1In.f
  by_cases h : a ≥ lo
  · rw [if_pos h]
    have h' : lo ≤ a := h
    simp [h']
  · rw [if_neg h]
    have h' : ¬ lo ≤ a := h
    simp [h']
theorem specThree (op : Int) : spec_l19Three.f op = some (decide (op = 2 ∨ op = 3 ∨ op = 4)) := by
  unfold spec_l19Three.f
  by_cases h2 : op = 2
  · simp [h2]
  by_cases h3 : op = 3
  · simp [h3]
  by_cases h4 : op = 4 <;> simp [h2, h3, h4]
theorem spec_ev (x0 x1 x2 x3 x4 : Int) (l : List S87) (a2 : Int) : Ev (fun k => spec_FoldOne.f k x0 x1 x2 x3 x4 l a2) (foG x0 x1 x2 x3 x4 l a2) := by
  refine ⟨4, fun k hk => ?_⟩
  obtain ⟨n, rfl⟩ : ∃ n, k = n + 1 + 1 + 1 + 1 := ⟨k - 4, by omega⟩
  simp only [spec_FoldOne.f, foG, specIn, Option.bind_some]
  by_cases hl : (l.length : Int) = 4
  case neg => simp [spec_FoldOne.j0, hl]
  by_cases hA : (0 ≤ x2 ∧ x2 ≤ 3)
  case neg => simp [spec_FoldOne.j0, hl, hA]
  by_cases hB : (0 ≤ x3 ∧ x3 ≤ 3)
  case neg => simp [spec_FoldOne.j0, hl, hA, hB]
  have a0 : 0 ≤ x2 := hA.1
  have a1 : x2 < (l.length : Int) := by omega
  have b0 : 0 ≤ x3 := hB.1
  have b1 : x3 < (l.length : Int) := by omega
  have e1 : (decide (0 ≤ x2 ∧ x2 ≤ 3)) = true := decide_eq_true hA
  have e2 : (decide (0 ≤ x3 ∧ x3 ≤ 3)) = true := decide_eq_true hB
  simp only [spec_FoldOne.j0, spec_FoldOne.j1, spec_FoldOne.j2, spec_FoldOne.j3, specThree, specOf, specIn, Option.bind_some, if_pos a0, if_pos a1, if_pos b0, if_pos b1, if_pos hl, e1, e2, if_true, Bool.not_true, Bool.false_eq_true, if_false, decide_eq_true_eq]
  by_cases hK : (rd_T87 l x2).f0 = true
  case neg =>
    simp only [if_neg hK]
    simp [hK]
  simp only [if_pos hK]
  rw [if_pos (show (l.length : Int) = 4 ∧ (0 ≤ x2 ∧ x2 ≤ 3) ∧ (0 ≤ x3 ∧ x3 ≤ 3) ∧ (rd_T87 l x2).f0 = true from ⟨hl, hA, hB, hK⟩)]
  by_cases ho : x0 = 2 ∨ x0 = 3 ∨ x0 = 4
  · simp only [if_pos ho, if_neg (show ¬ x0 = 12 by omega)]
    by_cases hb : (rd_T87 l x3).f0 = true
    · simp only [hb, true_and, if_true]
      split <;> rfl
    · simp only [if_neg hb, hb, false_and]
      rfl
  · simp only [if_neg ho]
    by_cases h12 : x0 = 12
    · simp only [if_pos h12]
      split <;> rfl
    · simp only [if_neg h12]

theorem FnExactFoldOne : SayFnExactFoldOne.Pure := by
  rintro ⟨y0, y1, y2, y3, y4⟩ l a2 hy hl h2
  have hlen : l.length ≤ 9223372036854775807 := hl.1
  obtain ⟨K, h⟩ : Ev (fun k => laws_FnExactFoldOne.f k y0 y1 y2 y3 y4 l a2) true := by
    unfold laws_FnExactFoldOne.f laws_szKnownS.f
    rw [w64 (by omega) (by omega)]
    by_cases hs : (1048576 : Int) - (l.length : Int) < 0
    · rw [if_pos hs]
      exact ev_const rfl
    · rw [if_neg hs]
      simp only [Option.bind_some]
      refine ev_neg hs ?_
      simp only [laws_toIns.f, Option.bind_some]
      refine Ev.bind (toKnownS_ev l (by omega)) (Ev.bind (spec_ev _ _ _ _ _ _ _) (Ev.bind (toKnownS_ev l (by omega)) ?_))
      simp only [impl_FoldOne.f, Option.bind_some]
      simp only [laws_eqIns.f, if_true, Option.bind_some]
      refine Ev.bind (toKnownS_ev l (by omega)) (Ev.bind (eqKnownS_ev _ (by simp; omega)) (ev_some rfl))
  exact ⟨K, h K (Nat.le_refl _)⟩
end Go.Proofs.Ytnnakemiaalggaa.Pure
