/- What a right place, a right body and a right program are: the program's and the reference's tests answer alike, for all numbers that are Go's. -/
import Derived.Test.YtocimkpafakiaaaWalkFnExactTrimProg
import Derived.Test.YtocimkpafakiaaaLib
namespace Go.Proofs.Ytocimkpafakiaaa.CoreInsFnExactTrimProg
open Go.RowKit Go.Proofs.Ytocimkpafakiaaa.XFnExactTrimProg Go.Proofs.Ytocimkpafakiaaa.Lib Go.Proofs.YtocimkpafakiaaaW.PrintWords Go.Proofs.YtocimkpafakiaaaW.PrintLast Go.Proofs.YtocimkpafakiaaaW.PrintMore
set_option linter.unusedVariables false
set_option linter.unusedSimpArgs false

theorem in_eq (a b c : Int) : spec_l1In.f a b c = some (decide (b ≤ a ∧ a ≤ c)) := by
  unfold spec_l1In.f
  by_cases h : a ≥ b
  · simp [h]
  · simp [h]
theorem within_eq (a b c : Int) : impl_within.f a b c = some (decide (b ≤ a ∧ a ≤ c)) := in_eq a b c
/-- A right place of so many places and channels. -/
def InsGood (op r a b n places chans : Int) : Prop :=
  (0 ≤ chans ∧ chans ≤ 3) ∧ (0 ≤ r ∧ r ≤ 3) ∧ (0 ≤ a ∧ a ≤ 3) ∧ (0 ≤ b ∧ b ≤ 3) ∧
  ((op = 1 ∧ (-1000000000 ≤ n ∧ n ≤ 1000000000) ∧ a = 0 ∧ b = 0) ∨ ((op = 2 ∨ op = 3 ∨ op = 4) ∧ n = 0) ∨ (op = 5 ∧ (0 ≤ n ∧ n < chans) ∧ r = 0 ∧ b = 0) ∨ ((op = 6 ∨ op = 8) ∧ (0 ≤ n ∧ n < chans) ∧ a = 0 ∧ r ≠ b) ∨
   (op = 7 ∧ (0 ≤ n ∧ n < chans) ∧ b = 0) ∨ (op = 9 ∧ (0 ≤ n ∧ n < chans) ∧ r = 0 ∧ a = 0 ∧ b = 0) ∨ (op = 10 ∧ r = 0 ∧ b = 0 ∧ n = 0) ∨ (op = 11 ∧ (0 ≤ n ∧ n < places) ∧ r = 0 ∧ a = 0 ∧ b = 0) ∨ (op = 12 ∧ (0 ≤ n ∧ n < places) ∧ r = 0 ∧ b = 0) ∨ (op = 13 ∧ r = 0 ∧ a = 0 ∧ b = 0 ∧ n = 0))
instance (op r a b n places chans : Int) : Decidable (InsGood op r a b n places chans) := by unfold InsGood; infer_instance
theorem some_dec {x : Bool} {p : Prop} [Decidable p] (h : x = true ↔ p) : some x = some (decide p) := by
  congr 1
  rw [Bool.eq_iff_iff, h, decide_eq_true_iff]
/-- What InsGood says at each op. -/
theorem good_iff (op r a b n places chans : Int) (hc : 0 ≤ chans ∧ chans ≤ 3) (hr : 0 ≤ r ∧ r ≤ 3) (ha : 0 ≤ a ∧ a ≤ 3) (hb : 0 ≤ b ∧ b ≤ 3) : InsGood op r a b n places chans ↔
    (op = 1 ∧ (-1000000000 ≤ n ∧ n ≤ 1000000000) ∧ a = 0 ∧ b = 0) ∨ ((op = 2 ∨ op = 3 ∨ op = 4) ∧ n = 0) ∨ (op = 5 ∧ (0 ≤ n ∧ n < chans) ∧ r = 0 ∧ b = 0) ∨ ((op = 6 ∨ op = 8) ∧ (0 ≤ n ∧ n < chans) ∧ a = 0 ∧ r ≠ b) ∨
   (op = 7 ∧ (0 ≤ n ∧ n < chans) ∧ b = 0) ∨ (op = 9 ∧ (0 ≤ n ∧ n < chans) ∧ r = 0 ∧ a = 0 ∧ b = 0) ∨ (op = 10 ∧ r = 0 ∧ b = 0 ∧ n = 0) ∨ (op = 11 ∧ (0 ≤ n ∧ n < places) ∧ r = 0 ∧ a = 0 ∧ b = 0) ∨ (op = 12 ∧ (0 ≤ n ∧ n < places) ∧ r = 0 ∧ b = 0) ∨ (op = 13 ∧ r = 0 ∧ a = 0 ∧ b = 0 ∧ n = 0) :=
  ⟨fun h => h.2.2.2.2, fun h => ⟨hc, hr, ha, hb, h⟩⟩
theorem ite_some (c : Prop) [Decidable c] (x y : Bool) : (if c then some x else some y) = some (if c then x else y) := by split <;> rfl
theorem b_and (c : Prop) [Decidable c] (x : Bool) : (if c then x else false) = (decide c && x) := by by_cases h : c <;> simp [h]
set_option maxHeartbeats 4000000 in
theorem spec_ins (op r a b n places chans : Int) (k : Nat) : spec_InsOk.f (k + 5) op r a b n places chans = some (decide (InsGood op r a b n places chans)) := by
  have no : ¬ ((0 ≤ chans ∧ chans ≤ 3) ∧ (0 ≤ r ∧ r ≤ 3) ∧ (0 ≤ a ∧ a ≤ 3) ∧ (0 ≤ b ∧ b ≤ 3)) → spec_InsOk.j0 (k + 5) places chans true op r a b n = some (decide (InsGood op r a b n places chans)) := fun h => by
    have h2 : ¬ InsGood op r a b n places chans := fun h3 => h ⟨h3.1, h3.2.1, h3.2.2.1, h3.2.2.2.1⟩
    simp [spec_InsOk.j0, h2]
  unfold spec_InsOk.f
  simp only [in_eq, Option.bind_some, decide_eq_true_eq]
  by_cases hr : 0 ≤ r ∧ r ≤ 3
  · rw [if_pos hr]
    by_cases ha : 0 ≤ a ∧ a ≤ 3
    · rw [if_pos ha]
      by_cases hb : 0 ≤ b ∧ b ≤ 3
      · rw [if_pos hb]
        by_cases hc : 0 ≤ chans ∧ chans ≤ 3
        · rw [decide_eq_true hc, show (!true) = false from rfl]
          have hw : wrap64 (chans - 1) = chans - 1 := w64 (by omega) (by omega)
          have hch : (decide (0 ≤ n ∧ n ≤ chans - 1)) = decide (0 ≤ n ∧ n < chans) := by rw [decide_eq_decide]; omega
          have hpl : ∀ (x : Bool → Option Bool), (if n ≥ 0 then x (decide (n < places)) else x false) = x (decide (0 ≤ n ∧ n < places)) := by
            intro x
            by_cases h : n ≥ 0
            · rw [if_pos h]
              congr 1
              rw [decide_eq_decide]
              omega
            · rw [if_neg h, decide_eq_false (by omega)]
          rw [spec_InsOk.j0, if_neg (by decide), hpl (fun q => spec_InsOk.j1 (k + 4) chans q op r a b n)]
          generalize hq : decide (0 ≤ n ∧ n < places) = q
          have hq2 : q = true ↔ (0 ≤ n ∧ n < places) := by rw [← hq, decide_eq_true_iff]
          have hg := good_iff op r a b n places chans hc hr ha hb
          clear no hq hpl
          rw [spec_InsOk.j1]
          simp only [in_eq, Option.bind_some, hw, hch]
          generalize hz : decide (0 ≤ n ∧ n < chans) = z
          have hz2 : z = true ↔ (0 ≤ n ∧ n < chans) := by rw [← hz, decide_eq_true_iff]
          clear hz hch
          by_cases ho : 1 ≤ op ∧ op ≤ 13
          · obtain rfl | rfl | rfl | rfl | rfl | rfl | rfl | rfl | rfl | rfl | rfl | rfl | rfl : op = 1 ∨ op = 2 ∨ op = 3 ∨ op = 4 ∨ op = 5 ∨ op = 6 ∨ op = 7 ∨ op = 8 ∨ op = 9 ∨ op = 10 ∨ op = 11 ∨ op = 12 ∨ op = 13 := by omega
            all_goals
              simp only [spec_InsOk.j2, spec_InsOk.j3, Int.reduceEq, reduceIte, Bool.false_eq_true, Int.reduceBEq, beq_self_eq_true, ite_some, b_and]
              refine some_dec ?_
              rw [hg]
              simp only [Int.reduceEq, false_and, true_and, false_or, or_false, or_self, true_or, or_true, Bool.and_eq_true, decide_eq_true_eq, beq_iff_eq, bne_iff_ne, hz2, hq2, ne_eq]
              try omega
          · rw [if_neg (by omega), if_neg (by omega), if_neg (by omega), beq_eq_false_iff_ne.mpr (show op ≠ 4 by omega), spec_InsOk.j2, if_neg (by decide), if_neg (by omega), if_neg (by omega), beq_eq_false_iff_ne.mpr (show op ≠ 8 by omega), spec_InsOk.j3, if_neg (by decide), if_neg (by omega), if_neg (by omega), if_neg (by omega), if_neg (by omega), if_neg (by omega), if_neg (by omega)]
            refine some_dec ?_
            rw [hg]
            simp only [Bool.false_eq_true, false_iff]
            omega
        · rw [decide_eq_false hc]
          exact no (fun h => hc h.1)
      · rw [if_neg hb]
        exact no (fun h => hb h.2.2.2)
    · rw [if_neg ha]
      exact no (fun h => ha h.2.2.1)
  · rw [if_neg hr]
    exact no (fun h => hr h.2.1)
theorem isReg_eq (a : Int) : impl_isReg.f a = some (decide (0 ≤ a ∧ a ≤ 3)) := by
  unfold impl_isReg.f
  rw [within_eq]
  rfl
set_option maxHeartbeats 4000000 in
theorem impl_ins (op r a b n places chans : Int) (hp : -4611686018427387904 ≤ places) (hp2 : places ≤ 9223372036854775807) (k : Nat) : impl_InsOk.f (k + 5) op r a b n places chans = some (decide (InsGood op r a b n places chans)) := by
  have no : ¬ InsGood op r a b n places chans → impl_InsOk.j0 (k + 5) places chans true op r a b n = some (decide (InsGood op r a b n places chans)) := fun h => by
    simp [impl_InsOk.j0, h]
  unfold impl_InsOk.f
  simp only [within_eq, isReg_eq, impl_named.f, Option.bind_some, decide_eq_true_eq]
  by_cases hc : 0 ≤ chans ∧ chans ≤ 3
  · rw [if_pos hc]
    by_cases ho : 1 ≤ op ∧ op ≤ 13
    · rw [if_pos ho]
      by_cases hn : r = nmR op r ∧ a = nmA op a ∧ b = nmB op b ∧ n = nmN op n
      · rw [if_neg (by obtain ⟨n1, n2, n3, n4⟩ := hn; rw [← n1, ← n2, ← n3, ← n4]; simp)]
        by_cases hr : 0 ≤ r ∧ r ≤ 3
        · rw [if_pos hr]
          by_cases ha : 0 ≤ a ∧ a ≤ 3
          · rw [if_pos ha]
            by_cases hb : 0 ≤ b ∧ b ≤ 3
            · rw [decide_eq_true hb, show (!true) = false from rfl]
              have hw : wrap64 (chans - 1) = chans - 1 := w64 (by omega) (by omega)
              have hw2 : wrap64 (places - 1) = places - 1 := w64 (by omega) (by omega)
              have hg := good_iff op r a b n places chans hc hr ha hb
              clear no
              obtain rfl | rfl | rfl | rfl | rfl | rfl | rfl | rfl | rfl | rfl | rfl | rfl | rfl : op = 1 ∨ op = 2 ∨ op = 3 ∨ op = 4 ∨ op = 5 ∨ op = 6 ∨ op = 7 ∨ op = 8 ∨ op = 9 ∨ op = 10 ∨ op = 11 ∨ op = 12 ∨ op = 13 := by omega
              all_goals
                simp only [nmR, nmA, nmB, nmN, Int.reduceEq, or_true, true_or, or_false, false_or, or_self, reduceIte, true_and, and_true] at hn
                simp only [impl_InsOk.j0, impl_InsOk.j1, impl_InsOk.j2, impl_ofChan.f, within_eq, hw, hw2, Option.bind_some, Int.reduceEq, Int.reduceLE, reduceIte, Bool.false_eq_true, Int.reduceBEq, beq_self_eq_true, decide_true, decide_false, and_self, and_false, false_and, true_and, and_true, ite_some]
                refine some_dec ?_
                rw [hg]
                simp only [Int.reduceEq, false_and, true_and, false_or, or_false, or_self, true_or, or_true, Bool.and_eq_true, decide_eq_true_eq, beq_iff_eq, bne_iff_ne, ne_eq]
                first | done | omega | (simp only [true_iff, iff_true, false_iff, and_true, true_and]; omega) | (split <;> simp_all <;> omega)
            · rw [decide_eq_false hb]
              exact no (fun h => hb h.2.2.2.1)
          · rw [if_neg ha]
            exact no (fun h => ha h.2.2.1)
        · rw [if_neg hr]
          exact no (fun h => hr h.2.1)
      · rw [if_pos (by
          by_cases x1 : r = nmR op r
          · by_cases x2 : a = nmA op a
            · by_cases x3 : b = nmB op b
              · have x4 : n ≠ nmN op n := fun x4 => hn ⟨x1, x2, x3, x4⟩
                simp [x4]
              · simp [x3]
            · simp [x2]
          · simp [x1])]
        refine no (fun h => hn ?_)
        obtain rfl | rfl | rfl | rfl | rfl | rfl | rfl | rfl | rfl | rfl | rfl | rfl | rfl : op = 1 ∨ op = 2 ∨ op = 3 ∨ op = 4 ∨ op = 5 ∨ op = 6 ∨ op = 7 ∨ op = 8 ∨ op = 9 ∨ op = 10 ∨ op = 11 ∨ op = 12 ∨ op = 13 := by omega
        all_goals
          replace h := h.2.2.2.2
          simp only [Int.reduceEq, false_and, true_and, false_or, or_false, or_self, true_or, or_true] at h
          simp only [nmR, nmA, nmB, nmN, Int.reduceEq, or_true, true_or, or_false, false_or, or_self, reduceIte, true_and, and_true]
          try omega
    · rw [if_neg ho]
      refine no (fun h => ho ?_)
      have := h.2.2.2.2
      omega
  · rw [if_neg hc]
    exact no (fun h => hc h.1)
end Go.Proofs.Ytocimkpafakiaaa.CoreInsFnExactTrimProg

namespace Go.Proofs.Ytocimkpafakiaaa.CoreBodyFnExactTrimProg
open Go.RowKit Go.Proofs.Ytocimkpafakiaaa.XFnExactTrimProg Go.Proofs.Ytocimkpafakiaaa.Lib Go.Proofs.Ytocimkpafakiaaa.CoreInsFnExactTrimProg Go.Proofs.YtocimkpafakiaaaW.PrintWords Go.Proofs.YtocimkpafakiaaaW.PrintLast Go.Proofs.YtocimkpafakiaaaW.PrintMore
set_option linter.unusedVariables false
set_option linter.unusedSimpArgs false

theorem rdIns_nat (xs : List S63) (i : Nat) : rd_T63 xs (i : Int) = xs.getD i z63 := by unfold rd_T63; rw [Int.toNat_natCast]
/-- A right place of a row. -/
def AtGood (l : List S63) (chans : Int) (i : Nat) : Prop := InsGood (l.getD i z63).f0 (l.getD i z63).f1 (l.getD i z63).f2 (l.getD i z63).f3 (l.getD i z63).f4 (l.length : Int) chans
def LastGood (l : List S63) : Prop := (l.getD (l.length - 1) z63).f0 = 13 ∨ (l.getD (l.length - 1) z63).f0 = 11
def BodyGood (l : List S63) (chans : Int) : Prop := (0 ≤ chans ∧ chans ≤ 3) ∧ (1 ≤ l.length ∧ l.length ≤ 24) ∧ (∀ i, i < l.length → AtGood l chans i) ∧ LastGood l
theorem ev_five {α : Type} {g : Nat → Option α} {r : α} (h : ∀ k, g (k + 5) = some r) : Ev g r := ⟨5, fun n hn => by obtain ⟨m, rfl⟩ : ∃ m, n = m + 5 := ⟨n - 5, by omega⟩; exact h m⟩
theorem or_last (a : Int) : (if a = 13 then some true else some (a == 11)) = some (decide (a = 13 ∨ a = 11)) := by
  by_cases h : a = 13
  · simp [h]
  · rw [if_neg h]
    exact some_dec (by simp [h])
theorem impl_body_l (l : List S63) (chans : Int) (h1 : 1 ≤ l.length) (h2 : l.length ≤ 1048576) : ∀ (n i : Nat), i + n = l.length → (∀ j, j < i → AtGood l chans j) → ∃ b, Ev (fun k => impl_BodyOk.l0 k l chans l (l.length : Int) i) b ∧ (b = true ↔ (∀ j, j < l.length → AtGood l chans j) ∧ LastGood l) := by
  intro n
  induction n with
  | zero =>
    intro i hi hj
    have hw : wrap64 ((l.length : Int) - 1) = ((l.length - 1 : Nat) : Int) := by rw [w64 (by omega) (by omega)]; omega
    refine ⟨decide ((l.getD (l.length - 1) z63).f0 = 13 ∨ (l.getD (l.length - 1) z63).f0 = 11), Ev.step (f := fun _ => some (decide ((l.getD (l.length - 1) z63).f0 = 13 ∨ (l.getD (l.length - 1) z63).f0 = 11))) (fun k => ?_) (ev_some rfl), ?_⟩
    · rw [impl_BodyOk.l0, if_neg (by omega), hw, if_pos (by omega), if_pos (by omega), rdIns_nat, or_last]
    · rw [decide_eq_true_iff]
      exact ⟨fun h => ⟨fun j hjl => hj j (by omega), h⟩, fun h => h.2⟩
  | succ n ih =>
    intro i hi hj
    have hs : ∀ k, impl_InsOk.f (k + 5) (l.getD i z63).f0 (l.getD i z63).f1 (l.getD i z63).f2 (l.getD i z63).f3 (l.getD i z63).f4 (l.length : Int) chans = some (decide (InsGood (l.getD i z63).f0 (l.getD i z63).f1 (l.getD i z63).f2 (l.getD i z63).f3 (l.getD i z63).f4 (l.length : Int) chans)) := fun k => impl_ins _ _ _ _ _ _ _ (by omega) (by omega) k
    by_cases c : AtGood l chans i
    · obtain ⟨b, hb, hb2⟩ := ih (i + 1) (by omega) (fun j hjl => by
        by_cases e : j = i
        · subst e
          exact c
        · exact hj j (by omega))
      refine ⟨b, Ev.step (fun k => by rw [impl_BodyOk.l0]) ?_, hb2⟩
      rw [rdIns_nat]
      refine ev_pos (by omega) (ev_pos (by omega) (ev_pos (by omega) (Ev.bind (ev_five hs) (ev_pos (decide_eq_true c) ?_))))
      rw [w64_nat (by omega)]
      exact hb
    · refine ⟨false, Ev.step (fun k => by rw [impl_BodyOk.l0]) ?_, ?_⟩
      · rw [rdIns_nat]
        exact ev_pos (by omega) (ev_pos (by omega) (ev_pos (by omega) (Ev.bind (ev_five hs) (ev_neg (by rw [decide_eq_true_iff]; exact c) (ev_some rfl)))))
      · simp only [Bool.false_eq_true, false_iff]
        exact fun h => c (h.1 i (by omega))
theorem impl_body (l : List S63) (chans : Int) (h2 : l.length ≤ 1048576) : ∃ b, Ev (fun k => impl_BodyOk.f k l chans) b ∧ (b = true ↔ BodyGood l chans) := by
  unfold impl_BodyOk.f
  simp only [within_eq]
  have no : ¬ BodyGood l chans → ∃ b, Ev (fun k => impl_BodyOk.j0 k l chans true) b ∧ (b = true ↔ BodyGood l chans) := fun h => ⟨false, Ev.step (f := fun _ => some false) (fun k => by simp [impl_BodyOk.j0]) (ev_some rfl), by simp [h]⟩
  by_cases hc : 0 ≤ chans ∧ chans ≤ 3
  · by_cases hl : 1 ≤ (l.length : Int) ∧ (l.length : Int) ≤ 24
    · obtain ⟨b, hb, hb2⟩ := impl_body_l l chans (by omega) h2 l.length 0 (by omega) (fun j hj => by omega)
      refine ⟨b, ev_bind0 rfl (ev_pos (decide_eq_true hc) (ev_bind0 rfl ?_)), ?_⟩
      · rw [decide_eq_true hl, show (!true) = false from rfl]
        refine Ev.step (fun k => by rw [impl_BodyOk.j0]) (ev_neg (by decide) ?_)
        exact hb
      · rw [hb2]
        exact ⟨fun h => ⟨hc, by omega, h.1, h.2⟩, fun h => h.2.2⟩
    · obtain ⟨b, hb, hb2⟩ := no (fun h => hl (by have := h.2.1; omega))
      refine ⟨b, ev_bind0 rfl (ev_pos (decide_eq_true hc) (ev_bind0 rfl ?_)), hb2⟩
      rw [decide_eq_false hl, show (!false) = true from rfl]
      exact hb
  · obtain ⟨b, hb, hb2⟩ := no (fun h => hc h.1)
    exact ⟨b, ev_bind0 rfl (ev_neg (by simpa using hc) hb), hb2⟩
theorem spec_body_l (l : List S63) (chans : Int) (h2 : l.length ≤ 1048576) : ∀ (n i : Nat), i + n = l.length → (∀ j, j < i → AtGood l chans j) → ∃ b, Ev (fun k => spec_BodyOk.l0 k l chans (l.length : Int) i) b ∧ (b = true ↔ BodyGood l chans) := by
  intro n
  induction n with
  | zero =>
    intro i hi hj
    by_cases hl : 1 ≤ (l.length : Int) ∧ (l.length : Int) ≤ 24
    · by_cases hc : 0 ≤ chans ∧ chans ≤ 3
      · have hw : wrap64 ((l.length : Int) - 1) = ((l.length - 1 : Nat) : Int) := by rw [w64 (by omega) (by omega)]; omega
        refine ⟨decide ((l.getD (l.length - 1) z63).f0 = 13 ∨ (l.getD (l.length - 1) z63).f0 = 11), Ev.step (f := fun _ => some (decide ((l.getD (l.length - 1) z63).f0 = 13 ∨ (l.getD (l.length - 1) z63).f0 = 11))) (fun k => ?_) (ev_some rfl), ?_⟩
        · rw [spec_BodyOk.l0, if_neg (by omega), in_eq, decide_eq_true hl]
          simp only [Option.bind_some]
          rw [if_pos trivial, in_eq, decide_eq_true hc]
          simp only [Option.bind_some]
          rw [if_pos trivial, hw, if_pos (by omega), if_pos (by omega), rdIns_nat, or_last]
        · rw [decide_eq_true_iff]
          exact ⟨fun h => ⟨hc, by omega, fun j hjl => hj j (by omega), h⟩, fun h => h.2.2.2⟩
      · refine ⟨false, Ev.step (f := fun _ => some false) (fun k => ?_) (ev_some rfl), ?_⟩
        · rw [spec_BodyOk.l0, if_neg (by omega), in_eq, decide_eq_true hl]
          simp only [Option.bind_some]
          rw [if_pos trivial, in_eq, decide_eq_false hc]
          simp
        · simp only [Bool.false_eq_true, false_iff]
          exact fun h => hc h.1
    · refine ⟨false, Ev.step (f := fun _ => some false) (fun k => ?_) (ev_some rfl), ?_⟩
      · rw [spec_BodyOk.l0, if_neg (by omega), in_eq, decide_eq_false hl]
        simp
      · simp only [Bool.false_eq_true, false_iff]
        exact fun h => hl (by have := h.2.1; omega)
  | succ n ih =>
    intro i hi hj
    have hs : ∀ k, spec_InsOk.f (k + 5) (l.getD i z63).f0 (l.getD i z63).f1 (l.getD i z63).f2 (l.getD i z63).f3 (l.getD i z63).f4 (l.length : Int) chans = some (decide (InsGood (l.getD i z63).f0 (l.getD i z63).f1 (l.getD i z63).f2 (l.getD i z63).f3 (l.getD i z63).f4 (l.length : Int) chans)) := fun k => spec_ins _ _ _ _ _ _ _ k
    by_cases c : AtGood l chans i
    · obtain ⟨b, hb, hb2⟩ := ih (i + 1) (by omega) (fun j hjl => by
        by_cases e : j = i
        · subst e
          exact c
        · exact hj j (by omega))
      refine ⟨b, Ev.step (fun k => by rw [spec_BodyOk.l0]) ?_, hb2⟩
      rw [rdIns_nat]
      refine ev_pos (by omega) (ev_pos (by omega) (ev_pos (by omega) (Ev.bind (ev_five hs) (ev_pos (decide_eq_true c) ?_))))
      rw [w64_nat (by omega)]
      exact hb
    · refine ⟨false, Ev.step (fun k => by rw [spec_BodyOk.l0]) ?_, ?_⟩
      · rw [rdIns_nat]
        exact ev_pos (by omega) (ev_pos (by omega) (ev_pos (by omega) (Ev.bind (ev_five hs) (ev_neg (by rw [decide_eq_true_iff]; exact c) (ev_some rfl)))))
      · simp only [Bool.false_eq_true, false_iff]
        exact fun h => c (h.2.2.1 i (by omega))
theorem spec_body (l : List S63) (chans : Int) (h2 : l.length ≤ 1048576) : ∃ b, Ev (fun k => spec_BodyOk.f k l chans) b ∧ (b = true ↔ BodyGood l chans) :=
  spec_body_l l chans h2 l.length 0 (by omega) (fun j hj => by omega)
/-- Both tests answer alike. -/
theorem body_both (l : List S63) (chans : Int) (h2 : l.length ≤ 1048576) : ∃ b, Ev (fun k => spec_BodyOk.f k l chans) b ∧ Ev (fun k => impl_BodyOk.f k l chans) b ∧ (b = true ↔ BodyGood l chans) := by
  obtain ⟨b, h, g⟩ := spec_body l chans h2
  obtain ⟨b', h', g'⟩ := impl_body l chans h2
  have e : b = b' := by rw [Bool.eq_iff_iff, g, g']
  subst e
  exact ⟨b, h, h', g⟩
end Go.Proofs.Ytocimkpafakiaaa.CoreBodyFnExactTrimProg

namespace Go.Proofs.Ytocimkpafakiaaa.CoreFlowFnExactTrimProg
open Go.RowKit Go.Proofs.Ytocimkpafakiaaa.XFnExactTrimProg Go.Proofs.Ytocimkpafakiaaa.Lib Go.Proofs.Ytocimkpafakiaaa.CoreInsFnExactTrimProg Go.Proofs.Ytocimkpafakiaaa.CoreBodyFnExactTrimProg Go.Proofs.YtocimkpafakiaaaW.PrintWords Go.Proofs.YtocimkpafakiaaaW.PrintLast Go.Proofs.YtocimkpafakiaaaW.PrintMore
set_option linter.unusedVariables false
set_option linter.unusedSimpArgs false

/-- The places behind place a. -/
def nx (l : List S63) (a : Int) : List Int := nxt (rd_T63 l a).f0 (rd_T63 l a).f4 (wrap64 (a + 1))
theorem impl_nx (l : List S63) (a : Int) (h : 0 ≤ a ∧ a < (l.length : Int)) : impl_nextOf.f l a = some (nx l a) := if_pos h
theorem nx_len (l : List S63) (a : Int) : (nx l a).length ≤ 2 := by
  unfold nx nxt nx2 nxC
  repeat' split
  all_goals simp
theorem nx_in (l : List S63) (c a : Int) (hg : BodyGood l c) (h : 0 ≤ a ∧ a < (l.length : Int)) : ∀ y ∈ nx l a, 0 ≤ y ∧ y < (l.length : Int) := by
  obtain ⟨m, rfl⟩ : ∃ m : Nat, a = (m : Int) := ⟨a.toNat, by omega⟩
  have hm : m < l.length := by omega
  have hi := hg.2.2.1 m hm
  have hlen := hg.2.1
  have hlast := hg.2.2.2
  unfold nx
  rw [rdIns_nat, w64 (by omega) (by omega)]
  unfold AtGood at hi
  have hn : ((l.getD m z63).f0 = 11 ∨ (l.getD m z63).f0 = 12) → 0 ≤ (l.getD m z63).f4 ∧ (l.getD m z63).f4 < (l.length : Int) := by
    intro ho
    have h5 := hi.2.2.2.2
    omega
  have hs : ¬ ((l.getD m z63).f0 = 11 ∨ (l.getD m z63).f0 = 13) → (m : Int) + 1 < (l.length : Int) := by
    intro ho
    have : ¬ m = l.length - 1 := fun e => by
      subst e
      unfold LastGood at hlast
      omega
    omega
  generalize l.getD m z63 = x at hn hs ⊢
  unfold nxt nx2 nxC
  intro y hy
  by_cases o3 : x.f0 = 13
  · rw [if_pos o3] at hy
    cases hy
  rw [if_neg o3] at hy
  by_cases o1 : x.f0 = 11
  · rw [if_pos o1, List.mem_singleton] at hy
    have := hn (.inl o1)
    omega
  rw [if_neg o1] at hy
  have h1 := hs (by omega)
  by_cases o2 : x.f0 = 12
  · have h2 := hn (.inr o2)
    rw [if_pos o2] at hy
    have : y = x.f4 ∨ y = (m : Int) + 1 := by
      revert hy
      repeat' split
      all_goals
        intro hy
        simp only [List.mem_cons, List.mem_singleton, List.not_mem_nil, or_false] at hy
        omega
    omega
  · rw [if_neg o2, List.mem_singleton] at hy
    omega
theorem spec_nx (l : List S63) (a : Int) (hg : BodyGood l 3) (h : 0 ≤ a ∧ a < (l.length : Int)) : Ev (fun k => spec_NextOf.f k l a) (nx l a) := by
  have hlen := hg.2.1
  obtain ⟨b, h1, _, h3⟩ := body_both l 3 (by omega)
  obtain rfl := h3.2 hg
  unfold spec_NextOf.f
  refine Ev.bind h1 (ev_pos rfl ?_)
  rw [in_eq, w64 (x := (l.length : Int) - 1) (by omega) (by omega), decide_eq_true (show 0 ≤ a ∧ a ≤ (l.length : Int) - 1 from ⟨h.1, by omega⟩)]
  refine ev_bind0 rfl (Ev.step (f := fun _ => some (nx l a)) (fun k => ?_) (ev_some rfl))
  rw [spec_NextOf.j0, if_neg (by decide), if_pos h.1, if_pos h.2]
  unfold nx nxt nx2 nxC
  by_cases o3 : (rd_T63 l a).f0 = 13
  · rw [if_pos o3, if_pos o3]
  rw [if_neg o3, if_neg o3]
  by_cases o1 : (rd_T63 l a).f0 = 11
  · rw [if_pos o1, if_pos o1]
  rw [if_neg o1, if_neg o1]
  by_cases o2 : (rd_T63 l a).f0 = 12
  · rw [if_pos o2, if_pos o2]
    by_cases c : (rd_T63 l a).f4 < wrap64 (a + 1)
    · rw [if_pos c, if_pos c, if_neg (by omega)]
    · rw [if_neg c, if_neg c]
      by_cases c2 : (rd_T63 l a).f4 > wrap64 (a + 1)
      · rw [if_pos c2, if_neg (by omega)]
      · rw [if_neg c2, if_pos (by omega)]
  · rw [if_neg o2, if_neg o2]

def unseen : List Bool → Nat
  | [] => 0
  | b :: t => (if b = true then 0 else 1) + unseen t
theorem unseen_le (x : List Bool) : unseen x ≤ x.length := by
  induction x with
  | nil => exact Nat.le_refl _
  | cons b t ih =>
    simp only [unseen, List.length_cons]
    split <;> omega
theorem unseen_set (x : List Bool) : ∀ i : Nat, i < x.length → x.getD i false = false → unseen (x.set i true) + 1 = unseen x := by
  induction x with
  | nil => intro i hi; simp at hi
  | cons b t ih =>
    intro i hi h
    cases i with
    | zero =>
      have hb : b = false := by simpa using h
      subst hb
      simp [unseen]
      omega
    | succ i =>
      have h2 := ih i (by simpa using hi) (by simpa using h)
      simp only [List.set_cons_succ, unseen]
      omega
def Hit (r : List Bool) (y : Int) : Prop := r.getD y.toNat false = true
/-- What is reached leads to what is reached. -/
def FlowShut (l : List S63) (r : List Bool) : Prop := ∀ a : Int, 0 ≤ a → a < (l.length : Int) → Hit r a → ∀ y ∈ nx l a, Hit r y
theorem hit_set (r : List Bool) (i : Nat) (y : Int) (h : Hit r y) : Hit (r.set i true) y := by
  unfold Hit at h ⊢
  by_cases e : i = y.toNat
  · subst e
    by_cases hl : y.toNat < r.length
    · exact L_set_self _ _ _ _ hl
    · rw [List.set_eq_of_length_le (by omega)]
      exact h
  · rw [L_set_ne _ _ _ _ _ e]
    exact h
theorem marks_both (l : List S63) (hg : BodyGood l 3) : ∀ (n : Nat) (seen : List Bool) (todo : List Int), seen.length = l.length → (∀ y ∈ todo, 0 ≤ y ∧ y < (l.length : Int)) → (∀ a : Int, 0 ≤ a → a < (l.length : Int) → Hit seen a → ∀ y ∈ nx l a, Hit seen y ∨ y ∈ todo) → 3 * unseen seen + todo.length ≤ n → n ≤ 1048576 → ∃ r : List Bool, r.length = l.length ∧ Ev (fun k => spec_l18Marks.l0 k l seen todo) r ∧ Ev (fun k => impl_reached.l0 k l seen todo) r ∧ (∀ y, Hit seen y → Hit r y) ∧ (∀ y ∈ todo, Hit r y) ∧ FlowShut l r := by
  intro n
  induction n with
  | zero =>
    intro seen todo hs ht hc hn hb
    obtain rfl : todo = [] := List.eq_nil_of_length_eq_zero (by omega)
    exact ⟨seen, hs, Ev.step (f := fun _ => some seen) (fun k => by simp [spec_l18Marks.l0]) (ev_some rfl), Ev.step (f := fun _ => some seen) (fun k => by simp [impl_reached.l0]) (ev_some rfl), fun y h => h, fun y h => (by cases h), fun a a0 a1 h y hy => (hc a a0 a1 h y hy).elim (fun g => g) (fun g => by cases g)⟩
  | succ n ih =>
    intro seen todo hs ht hc hn hb
    cases todo with
    | nil => exact ⟨seen, hs, Ev.step (f := fun _ => some seen) (fun k => by simp [spec_l18Marks.l0]) (ev_some rfl), Ev.step (f := fun _ => some seen) (fun k => by simp [impl_reached.l0]) (ev_some rfl), fun y h => h, fun y h => (by cases h), fun a a0 a1 h y hy => (hc a a0 a1 h y hy).elim (fun g => g) (fun g => by cases g)⟩
    | cons y rest =>
      have hy := ht y (List.mem_cons_self ..)
      have hr : ∀ z ∈ rest, 0 ≤ z ∧ z < (l.length : Int) := fun z hz => ht z (List.mem_cons_of_mem _ hz)
      have e0 : rd (y :: rest) 0 = y := rfl
      have elen : ((y :: rest).length : Int) = (rest.length : Int) + 1 := by simp
      rw [List.length_cons] at hn
      have hrb : rdOf false seen y = seen.getD y.toNat false := rfl
      by_cases hseen : rdOf false seen y = true
      · obtain ⟨r, h1, h2, h3, h4, h5, h6⟩ := ih seen rest hs hr (fun a a0 a1 h z hz => (hc a a0 a1 h z hz).elim .inl (fun g => (List.mem_cons.1 g).elim (fun e => .inl (e ▸ hseen)) .inr)) (by omega) (by omega)
        refine ⟨r, h1, Ev.step (fun k => by rw [spec_l18Marks.l0]) ?_, Ev.step (fun k => by rw [impl_reached.l0]) ?_, h4, fun z hz => (List.mem_cons.1 hz).elim (fun e => h4 z (e ▸ hseen)) (h5 z), h6⟩
        · refine ev_pos (by omega) (ev_pos (by omega) (ev_bind0 rfl (ev_pos (by omega) (ev_bind0 rfl (ev_pos (by simp; omega) (ev_bind0 rfl ?_))))))
          rw [e0]
          exact ev_pos hy.1 (ev_pos (by omega) (ev_pos hseen h2))
        · refine ev_pos (by omega) (ev_pos (by omega) (ev_pos (by omega) (ev_bind0 rfl ?_)))
          rw [e0]
          exact ev_pos hy.1 (ev_pos (by omega) (ev_pos hseen h3))
      · have hlt : y.toNat < seen.length := by omega
        have hu := unseen_set seen y.toNat hlt (by rw [← hrb]; exact Bool.eq_false_iff.mpr hseen)
        have hnl := nx_len l y
        have hself : Hit (seen.set y.toNat true) y := L_set_self _ _ _ _ hlt
        obtain ⟨r, h1, h2, h3, h4, h5, h6⟩ := ih (seen.set y.toNat true) (rest ++ nx l y) (by simpa using hs) (fun z hz => by
          rcases List.mem_append.1 hz with h | h
          · exact hr z h
          · exact nx_in l 3 y hg hy z h) (fun a a0 a1 h z hz => by
          by_cases e : a = y
          · subst e
            exact .inr (List.mem_append.2 (.inr hz))
          · have h' : Hit seen a := by
              unfold Hit at h ⊢
              rw [L_set_ne _ _ _ _ _ (by omega)] at h
              exact h
            exact (hc a a0 a1 h' z hz).elim (fun g => .inl (hit_set _ _ _ g)) (fun g => (List.mem_cons.1 g).elim (fun e => .inl (e ▸ hself)) (fun g => .inr (List.mem_append.2 (.inl g))))) (by rw [List.length_append]; omega) (by omega)
        refine ⟨r, h1, Ev.step (fun k => by rw [spec_l18Marks.l0]) ?_, Ev.step (fun k => by rw [impl_reached.l0]) ?_, fun z hz => h4 z (hit_set _ _ _ hz), fun z hz => (List.mem_cons.1 hz).elim (fun e => h4 z (e ▸ hself)) (fun g => h5 z (List.mem_append.2 (.inl g))), h6⟩
        · refine ev_pos (by omega) (ev_pos (by omega) (ev_bind0 rfl (ev_pos (by omega) (ev_bind0 rfl (ev_pos (by simp; omega) (ev_bind0 rfl ?_))))))
          rw [e0]
          refine ev_pos hy.1 (ev_pos (by omega) (ev_neg hseen (Ev.bind (spec_nx l y hg hy) (ev_pos (by simp; omega) ?_))))
          exact h2
        · refine ev_pos (by omega) (ev_pos (by omega) (ev_pos (by omega) (ev_bind0 rfl ?_)))
          rw [e0]
          refine ev_pos hy.1 (ev_pos (by omega) (ev_neg hseen (ev_bind0 (impl_nx l y hy) (ev_pos (by simp; omega) ?_))))
          exact h3
theorem unseen_replicate (n : Nat) : unseen (List.replicate n false) ≤ n := by
  have := unseen_le (List.replicate n false)
  simpa using this
theorem not_hit_replicate (n : Nat) (a : Int) : ¬ Hit (List.replicate n false) a := by
  unfold Hit
  rw [List.getD_eq_getElem?_getD, List.getElem?_replicate]
  split <;> simp
theorem reach_both2 (l : List S63) (hg : BodyGood l 3) (from_ : List Int) (hf : ∀ y ∈ from_, 0 ≤ y ∧ y < (l.length : Int)) (hl : from_.length ≤ 1000) : ∃ r : List Bool, r.length = l.length ∧ Ev (fun k => spec_l18Marks.f k l from_) r ∧ Ev (fun k => impl_reached.f k l from_) r ∧ (∀ y ∈ from_, Hit r y) ∧ FlowShut l r := by
  have hlen := hg.2.1
  have hu := unseen_replicate l.length
  obtain ⟨r, h1, h2, h3, h4, h5, h6⟩ := marks_both l hg (3 * l.length + 1000) (List.replicate l.length false) from_ (by simp) hf (fun a _ _ h => absurd h (not_hit_replicate _ _)) (by omega) (by omega)
  refine ⟨r, h1, ?_, ?_, h5, h6⟩
  · unfold spec_l18Marks.f
    rw [Int.toNat_natCast]
    exact ev_pos (by omega) (ev_pos (by omega) (ev_bind0 rfl (ev_pos (by simp; omega) h2)))
  · unfold impl_reached.f impl_copyInts.f
    rw [Int.toNat_natCast]
    refine ev_pos (by omega) (ev_pos (by omega) (ev_bind0 (x := from_) ?_ h3))
    simp only [Option.bind_some, List.nil_append]
    rw [if_pos (by simp; omega)]
theorem reach_both (l : List S63) (hg : BodyGood l 3) (from_ : List Int) (hf : ∀ y ∈ from_, 0 ≤ y ∧ y < (l.length : Int)) (hl : from_.length ≤ 1000) : ∃ r : List Bool, r.length = l.length ∧ Ev (fun k => spec_l18Marks.f k l from_) r ∧ Ev (fun k => impl_reached.f k l from_) r := by
  obtain ⟨r, h1, h2, h3, _, _⟩ := reach_both2 l hg from_ hf hl
  exact ⟨r, h1, h2, h3⟩
end Go.Proofs.Ytocimkpafakiaaa.CoreFlowFnExactTrimProg
