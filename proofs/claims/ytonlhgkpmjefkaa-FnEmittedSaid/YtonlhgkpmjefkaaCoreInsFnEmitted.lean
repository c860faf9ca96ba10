/- What a right place, a right body and a right program are: the program's and the reference's tests answer alike, for all numbers that are Go's. -/
import Derived.Test.YtonlhgkpmjefkaaXFnEmittedx20
import Derived.Test.YtonlhgkpmjefkaaLib
namespace Go.Proofs.Ytonlhgkpmjefkaa.CoreInsFnEmitted
open Go.RowKit Go.Proofs.Ytonlhgkpmjefkaa.XFnEmitted Go.Proofs.Ytonlhgkpmjefkaa.Lib Go.Proofs.YtonlhgkpmjefkaaW.PrintWords Go.Proofs.YtonlhgkpmjefkaaW.PrintLast Go.Proofs.YtonlhgkpmjefkaaW.PrintMore
set_option linter.unusedVariables false
set_option linter.unusedSimpArgs false

theorem in_eq (a b c : Int) : spec_l1In.f a b c = some (decide (b ≤ a ∧ a ≤ c)) := by
  unfold spec_l1In.f
  by_cases h : a ≥ b
  · simp [h]
  · simp [h]
theorem within_eq (a b c : Int) : impl_within.f a b c = some (decide (b ≤ a ∧ a ≤ c)) := in_eq a b c
/-- A right place of so many places and channels. -/
def InsGood (op r a b n places chans : Int) : Prop :=
  (0 ≤ chans ∧ chans ≤ 3) ∧ (0 ≤ r ∧ r ≤ 3) ∧ (0 ≤ a ∧ a ≤ 3) ∧ (0 ≤ b ∧ b ≤ 3) ∧
  ((op = 1 ∧ (-1000000000 ≤ n ∧ n ≤ 1000000000) ∧ a = 0 ∧ b = 0) ∨ ((op = 2 ∨ op = 3 ∨ op = 4) ∧ n = 0) ∨ (op = 5 ∧ (0 ≤ n ∧ n < chans) ∧ r = 0 ∧ b = 0) ∨ ((op = 6 ∨ op = 8) ∧ (0 ≤ n ∧ n < chans) ∧ a = 0 ∧ r ≠ b) ∨
   (op = 7 ∧ (0 ≤ n ∧ n < chans) ∧ b = 0) ∨ (op = 9 ∧ (0 ≤ n ∧ n < chans) ∧ r = 0 ∧ a = 0 ∧ b = 0) ∨ (op = 10 ∧ r = 0 ∧ b = 0 ∧ n = 0) ∨ (op = 11 ∧ (0 ≤ n ∧ n < places) ∧ r = 0 ∧ a = 0 ∧ b = 0) ∨ (op = 12 ∧ (0 ≤ n ∧ n < places) ∧ r = 0 ∧ b = 0) ∨ (op = 13 ∧ r = 0 ∧ a = 0 ∧ b = 0 ∧ n = 0))
instance (op r a b n places chans : Int) : Decidable (InsGood op r a b n places chans) := by unfold InsGood; infer_instance
theorem some_dec {x : Bool} {p : Prop} [Decidable p] (h : x = true ↔ p) : some x = some (decide p) := by
  congr 1
  rw [Bool.eq_iff_iff, h, decide_eq_true_iff]
/-- What InsGood says at each op. -/
theorem good_iff (op r a b n places chans : Int) (hc : 0 ≤ chans ∧ chans ≤ 3) (hr : 0 ≤ r ∧ r ≤ 3) (ha : 0 ≤ a ∧ a ≤ 3) (hb : 0 ≤ b ∧ b ≤ 3) : InsGood op r a b n places chans ↔
    (op = 1 ∧ (-1000000000 ≤ n ∧ n ≤ 1000000000) ∧ a = 0 ∧ b = 0) ∨ ((op = 2 ∨ op = 3 ∨ op = 4) ∧ n = 0) ∨ (op = 5 ∧ (0 ≤ n ∧ n < chans) ∧ r = 0 ∧ b = 0) ∨ ((op = 6 ∨ op = 8) ∧ (0 ≤ n ∧ n < chans) ∧ a = 0 ∧ r ≠ b) ∨
   (op = 7 ∧ (0 ≤ n ∧ n < chans) ∧ b = 0) ∨ (op = 9 ∧ (0 ≤ n ∧ n < chans) ∧ r = 0 ∧ a = 0 ∧ b = 0) ∨ (op = 10 ∧ r = 0 ∧ b = 0 ∧ n = 0) ∨ (op = 11 ∧ (0 ≤ n ∧ n < places) ∧ r = 0 ∧ a = 0 ∧ b = 0) ∨ (op = 12 ∧ (0 ≤ n ∧ n < places) ∧ r = 0 ∧ b = 0) ∨ (op = 13 ∧ r = 0 ∧ a = 0 ∧ b = 0 ∧ n = 0) :=
  ⟨fun h => h.2.2.2.2, fun h => ⟨hc, hr, ha, hb, h⟩⟩
theorem ite_some (c : Prop) [Decidable c] (x y : Bool) : (if c then some x else some y) = some (if c then x else y) := by split <;> rfl
theorem b_and (c : Prop) [Decidable c] (x : Bool) : (if c then x else false) = (decide c && x) := by by_cases h : c <;> simp [h]
set_option maxHeartbeats 4000000 in
theorem spec_ins (op r a b n places chans : Int) (k : Nat) : spec_InsOk.f (k + 5) op r a b n places chans = some (decide (InsGood op r a b n places chans)) := by
  have no : ¬ ((0 ≤ chans ∧ chans ≤ 3) ∧ (0 ≤ r ∧ r ≤ 3) ∧ (0 ≤ a ∧ a ≤ 3) ∧ (0 ≤ b ∧ b ≤ 3)) → spec_InsOk.j0 (k + 5) places chans true op r a b n = some (decide (InsGood op r a b n places chans)) := fun h => by
    have h2 : ¬ InsGood op r a b n places chans := fun h3 => h ⟨h3.1, h3.2.1, h3.2.2.1, h3.2.2.2.1⟩
    simp [spec_InsOk.j0, h2]
  unfold spec_InsOk.f
  simp only [in_eq, Option.bind_some, decide_eq_true_eq]
  by_cases hr : 0 ≤ r ∧ r ≤ 3
  · rw [if_pos hr]
    by_cases ha : 0 ≤ a ∧ a ≤ 3
    · rw [if_pos ha]
      by_cases hb : 0 ≤ b ∧ b ≤ 3
      · rw [if_pos hb]
        by_cases hc : 0 ≤ chans ∧ chans ≤ 3
        · rw [decide_eq_true hc, show (!true) = false from rfl]
          have hw : wrap64 (chans - 1) = chans - 1 := w64 (by omega) (by omega)
          have hch : (decide (0 ≤ n ∧ n ≤ chans - 1)) = decide (0 ≤ n ∧ n < chans) := by rw [decide_eq_decide]; omega
          have hpl : ∀ (x : Bool → Option Bool), (if n ≥ 0 then x (decide (n < places)) else x false) = x (decide (0 ≤ n ∧ n < places)) := by
            intro x
            by_cases h : n ≥ 0
            · rw [if_pos h]
              congr 1
              rw [decide_eq_decide]
              omega
            · rw [if_neg h, decide_eq_false (by omega)]
          rw [spec_InsOk.j0, if_neg (by decide), hpl (fun q => spec_InsOk.j1 (k + 4) chans q op r a b n)]
          generalize hq : decide (0 ≤ n ∧ n < places) = q
          have hq2 : q = true ↔ (0 ≤ n ∧ n < places) := by rw [← hq, decide_eq_true_iff]
          have hg := good_iff op r a b n places chans hc hr ha hb
          clear no hq hpl
          rw [spec_InsOk.j1]
          simp only [in_eq, Option.bind_some, hw, hch]
          generalize hz : decide (0 ≤ n ∧ n < chans) = z
          have hz2 : z = true ↔ (0 ≤ n ∧ n < chans) := by rw [← hz, decide_eq_true_iff]
          clear hz hch
          by_cases ho : 1 ≤ op ∧ op ≤ 13
          · obtain rfl | rfl | rfl | rfl | rfl | rfl | rfl | rfl | rfl | rfl | rfl | rfl | rfl : op = 1 ∨ op = 2 ∨ op = 3 ∨ op = 4 ∨ op = 5 ∨ op = 6 ∨ op = 7 ∨ op = 8 ∨ op = 9 ∨ op = 10 ∨ op = 11 ∨ op = 12 ∨ op = 13 := by omega
            all_goals
              simp only [spec_InsOk.j2, spec_InsOk.j3, Int.reduceEq, reduceIte, Bool.false_eq_true, Int.reduceBEq, beq_self_eq_true, ite_some, b_and]
              refine some_dec ?_
              rw [hg]
              simp only [Int.reduceEq, false_and, true_and, false_or, or_false, or_self, true_or, or_true, Bool.and_eq_true, decide_eq_true_eq, beq_iff_eq, bne_iff_ne, hz2, hq2, ne_eq]
              try omega
          · rw [if_neg (by omega), if_neg (by omega), if_neg (by omega), beq_eq_false_iff_ne.mpr (show op ≠ 4 by omega), spec_InsOk.j2, if_neg (by decide), if_neg (by omega), if_neg (by omega), beq_eq_false_iff_ne.mpr (show op ≠ 8 by omega), spec_InsOk.j3, if_neg (by decide), if_neg (by omega), if_neg (by omega), if_neg (by omega), if_neg (by omega), if_neg (by omega), if_neg (by omega)]
            refine some_dec ?_
            rw [hg]
            simp only [Bool.false_eq_true, false_iff]
            omega
        · rw [decide_eq_false hc]
          exact no (fun h => hc h.1)
      · rw [if_neg hb]
        exact no (fun h => hb h.2.2.2)
    · rw [if_neg ha]
      exact no (fun h => ha h.2.2.1)
  · rw [if_neg hr]
    exact no (fun h => hr h.2.1)
theorem isReg_eq (a : Int) : impl_isReg.f a = some (decide (0 ≤ a ∧ a ≤ 3)) := by
  unfold impl_isReg.f
  rw [within_eq]
  rfl
set_option maxHeartbeats 4000000 in
theorem impl_ins (op r a b n places chans : Int) (hp : -4611686018427387904 ≤ places) (hp2 : places ≤ 9223372036854775807) (k : Nat) : impl_InsOk.f (k + 5) op r a b n places chans = some (decide (InsGood op r a b n places chans)) := by
  have no : ¬ InsGood op r a b n places chans → impl_InsOk.j0 (k + 5) places chans true op r a b n = some (decide (InsGood op r a b n places chans)) := fun h => by
    simp [impl_InsOk.j0, h]
  unfold impl_InsOk.f
  simp only [within_eq, isReg_eq, impl_named.f, Option.bind_some, decide_eq_true_eq]
  by_cases hc : 0 ≤ chans ∧ chans ≤ 3
  · rw [if_pos hc]
    by_cases ho : 1 ≤ op ∧ op ≤ 13
    · rw [if_pos ho]
      by_cases hn : r = nmR op r ∧ a = nmA op a ∧ b = nmB op b ∧ n = nmN op n
      · rw [if_neg (by obtain ⟨n1, n2, n3, n4⟩ := hn; rw [← n1, ← n2, ← n3, ← n4]; simp)]
        by_cases hr : 0 ≤ r ∧ r ≤ 3
        · rw [if_pos hr]
          by_cases ha : 0 ≤ a ∧ a ≤ 3
          · rw [if_pos ha]
            by_cases hb : 0 ≤ b ∧ b ≤ 3
            · rw [decide_eq_true hb, show (!true) = false from rfl]
              have hw : wrap64 (chans - 1) = chans - 1 := w64 (by omega) (by omega)
              have hw2 : wrap64 (places - 1) = places - 1 := w64 (by omega) (by omega)
              have hg := good_iff op r a b n places chans hc hr ha hb
              clear no
              obtain rfl | rfl | rfl | rfl | rfl | rfl | rfl | rfl | rfl | rfl | rfl | rfl | rfl : op = 1 ∨ op = 2 ∨ op = 3 ∨ op = 4 ∨ op = 5 ∨ op = 6 ∨ op = 7 ∨ op = 8 ∨ op = 9 ∨ op = 10 ∨ op = 11 ∨ op = 12 ∨ op = 13 := by omega
              all_goals
                simp only [nmR, nmA, nmB, nmN, Int.reduceEq, or_true, true_or, or_false, false_or, or_self, reduceIte, true_and, and_true] at hn
                simp only [impl_InsOk.j0, impl_InsOk.j1, impl_InsOk.j2, impl_ofChan.f, within_eq, hw, hw2, Option.bind_some, Int.reduceEq, Int.reduceLE, reduceIte, Bool.false_eq_true, Int.reduceBEq, beq_self_eq_true, decide_true, decide_false, and_self, and_false, false_and, true_and, and_true, ite_some]
                refine some_dec ?_
                rw [hg]
                simp only [Int.reduceEq, false_and, true_and, false_or, or_false, or_self, true_or, or_true, Bool.and_eq_true, decide_eq_true_eq, beq_iff_eq, bne_iff_ne, ne_eq]
                first | done | omega | (simp only [true_iff, iff_true, false_iff, and_true, true_and]; omega) | (split <;> simp_all <;> omega)
            · rw [decide_eq_false hb]
              exact no (fun h => hb h.2.2.2.1)
          · rw [if_neg ha]
            exact no (fun h => ha h.2.2.1)
        · rw [if_neg hr]
          exact no (fun h => hr h.2.1)
      · rw [if_pos (by
          by_cases x1 : r = nmR op r
          · by_cases x2 : a = nmA op a
            · by_cases x3 : b = nmB op b
              · have x4 : n ≠ nmN op n := fun x4 => hn ⟨x1, x2, x3, x4⟩
                simp [x4]
              · simp [x3]
            · simp [x2]
          · simp [x1])]
        refine no (fun h => hn ?_)
        obtain rfl | rfl | rfl | rfl | rfl | rfl | rfl | rfl | rfl | rfl | rfl | rfl | rfl : op = 1 ∨ op = 2 ∨ op = 3 ∨ op = 4 ∨ op = 5 ∨ op = 6 ∨ op = 7 ∨ op = 8 ∨ op = 9 ∨ op = 10 ∨ op = 11 ∨ op = 12 ∨ op = 13 := by omega
        all_goals
          replace h := h.2.2.2.2
          simp only [Int.reduceEq, false_and, true_and, false_or, or_false, or_self, true_or, or_true] at h
          simp only [nmR, nmA, nmB, nmN, Int.reduceEq, or_true, true_or, or_false, false_or, or_self, reduceIte, true_and, and_true]
          try omega
    · rw [if_neg ho]
      refine no (fun h => ho ?_)
      have := h.2.2.2.2
      omega
  · rw [if_neg hc]
    exact no (fun h => hc h.1)
end Go.Proofs.Ytonlhgkpmjefkaa.CoreInsFnEmitted
