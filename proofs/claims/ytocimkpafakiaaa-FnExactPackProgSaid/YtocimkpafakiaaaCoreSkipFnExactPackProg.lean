/- Skip: where a jump leads at last; alike by the program and the reference, and within the body. -/
import Derived.Test.YtocimkpafakiaaaWalkFnExactPackProg
import Derived.Test.YtocimkpafakiaaaCoreBodyFnExactPackProg
namespace Go.Proofs.Ytocimkpafakiaaa.CoreSkipFnExactPackProg
open Go.RowKit Go.Proofs.Ytocimkpafakiaaa.XFnExactPackProg Go.Proofs.Ytocimkpafakiaaa.Lib Go.Proofs.Ytocimkpafakiaaa.CoreInsFnExactPackProg Go.Proofs.Ytocimkpafakiaaa.CoreBodyFnExactPackProg Go.Proofs.YtocimkpafakiaaaW.PrintWords Go.Proofs.YtocimkpafakiaaaW.PrintLast Go.Proofs.YtocimkpafakiaaaW.PrintMore
set_option linter.unusedVariables false
set_option linter.unusedSimpArgs false

theorem stays (l : List S63) (hl : l.length ≤ 1048576) (at_ : Nat) (ha : at_ < l.length) (hj : (l.getD at_ z63).f0 ≠ 11) : ∀ (n i : Nat), i + n = l.length → Ev (fun k => impl_Skip.l0 k l (at_ : Int) (l.length : Int) i) (at_ : Int) := by
  intro n
  induction n with
  | zero =>
    intro i hi
    refine Ev.step (f := fun _ => some (at_ : Int)) (fun k => ?_) (ev_some rfl)
    rw [impl_Skip.l0, if_neg (by omega)]
  | succ n ih =>
    intro i hi
    refine Ev.step (fun k => ?_) (ih (i + 1) (by omega))
    rw [impl_Skip.l0, if_pos (by omega), if_pos (by omega), if_pos (by omega), rdIns_nat, if_neg hj, w64_nat (by omega)]
theorem goes (l : List S63) (hl : l.length ≤ 1048576) (hg : ∀ i, i < l.length → AtGood l 3 i) : ∀ (n i at_ : Nat), i + n = l.length → at_ < l.length → ∃ r, Ev (fun k => spec_Skip.l0 k l (at_ : Int) i) r ∧ Ev (fun k => impl_Skip.l0 k l (at_ : Int) (l.length : Int) i) r ∧ 0 ≤ r ∧ r < (l.length : Int) := by
  intro n
  induction n with
  | zero =>
    intro i at_ hi ha
    refine ⟨(at_ : Int), Ev.step (f := fun _ => some (at_ : Int)) (fun k => ?_) (ev_some rfl), Ev.step (f := fun _ => some (at_ : Int)) (fun k => ?_) (ev_some rfl), by omega, by omega⟩
    · rw [spec_Skip.l0, if_neg (by omega)]
    · rw [impl_Skip.l0, if_neg (by omega)]
  | succ n ih =>
    intro i at_ hi ha
    by_cases hj : (l.getD at_ z63).f0 = 11
    · have hn : 0 ≤ (l.getD at_ z63).f4 ∧ (l.getD at_ z63).f4 < (l.length : Int) := by
        have h := (hg at_ ha).2.2.2.2
        rw [hj] at h
        simp only [Int.reduceEq, false_and, true_and, false_or, or_false, or_self] at h
        exact h.1
      obtain ⟨m, hm⟩ : ∃ m : Nat, (l.getD at_ z63).f4 = (m : Int) := ⟨(l.getD at_ z63).f4.toNat, by omega⟩
      rw [hm] at hn
      obtain ⟨r, h1, h2, h3⟩ := ih (i + 1) m (by omega) (by omega)
      refine ⟨r, Ev.step (fun k => ?_) h1, Ev.step (fun k => ?_) h2, h3⟩
      · rw [spec_Skip.l0, if_pos (by omega), if_pos (by omega), if_pos (by omega), rdIns_nat, if_pos hj, hm, w64_nat (by omega)]
      · rw [impl_Skip.l0, if_pos (by omega), if_pos (by omega), if_pos (by omega), rdIns_nat, if_pos hj, hm, w64_nat (by omega)]
    · refine ⟨(at_ : Int), Ev.step (f := fun _ => some (at_ : Int)) (fun k => ?_) (ev_some rfl), stays l hl at_ ha hj (n + 1) i (by omega), by omega, by omega⟩
      rw [spec_Skip.l0, if_pos (by omega), if_pos (by omega), if_pos (by omega), rdIns_nat, if_neg hj]
theorem skip_good (l : List S63) (hg : BodyGood l 3) (m : Nat) (hm : m < l.length) : ∃ r, Ev (fun k => spec_Skip.f k l (m : Int)) r ∧ Ev (fun k => impl_Skip.f k l (m : Int)) r ∧ 0 ≤ r ∧ r < (l.length : Int) := by
  have hlen := hg.2.1
  have hl : l.length ≤ 1048576 := by omega
  obtain ⟨b, h1, h2, h3⟩ := body_both l 3 hl
  obtain rfl := h3.2 hg
  obtain ⟨r, g1, g2, g3⟩ := goes l hl hg.2.2.1 l.length 0 m (by omega) hm
  unfold spec_Skip.f impl_Skip.f impl_placeIn.f
  have hw : wrap64 ((l.length : Int) - 1) = (l.length : Int) - 1 := w64 (by omega) (by omega)
  simp only [in_eq, within_eq, hw]
  have ha : 0 ≤ (m : Int) ∧ (m : Int) ≤ (l.length : Int) - 1 := by omega
  refine ⟨r, Ev.bind h1 (ev_pos rfl (ev_bind0 rfl ?_)), Ev.bind (Ev.bind h2 (ev_pos rfl (ev_bind0 rfl (ev_some rfl)))) (ev_pos (decide_eq_true ha) g2), g3⟩
  rw [decide_eq_true ha]
  refine Ev.step (fun k => ?_) g1
  rw [spec_Skip.j0, if_neg (by decide)]
  rfl
theorem skip_both (l : List S63) (hl : l.length ≤ 1048576) (a : Int) : ∃ r, Ev (fun k => spec_Skip.f k l a) r ∧ Ev (fun k => impl_Skip.f k l a) r := by
  obtain ⟨b, h1, h2, h3⟩ := body_both l 3 hl
  unfold spec_Skip.f impl_Skip.f impl_placeIn.f
  have hw : wrap64 ((l.length : Int) - 1) = (l.length : Int) - 1 := w64 (by omega) (by omega)
  simp only [in_eq, within_eq, hw]
  cases b with
  | false =>
    refine ⟨-1, Ev.bind h1 (ev_neg (by decide) (Ev.step (f := fun _ => some (-1)) (fun k => by simp [spec_Skip.j0]) (ev_some rfl))), Ev.bind (Ev.bind h2 (ev_neg (by decide) (ev_some rfl))) (ev_neg (by decide) (ev_some rfl))⟩
  | true =>
    have hg := h3.1 rfl
    by_cases ha : 0 ≤ a ∧ a ≤ (l.length : Int) - 1
    · obtain ⟨m, rfl⟩ : ∃ m : Nat, a = (m : Int) := ⟨a.toNat, by omega⟩
      obtain ⟨r, g1, g2, _⟩ := goes l hl hg.2.2.1 l.length 0 m (by omega) (by omega)
      refine ⟨r, Ev.bind h1 (ev_pos rfl (ev_bind0 rfl ?_)), Ev.bind (Ev.bind h2 (ev_pos rfl (ev_bind0 rfl (ev_some rfl)))) (ev_pos (decide_eq_true ha) g2)⟩
      rw [decide_eq_true ha]
      refine Ev.step (fun k => ?_) g1
      rw [spec_Skip.j0, if_neg (by decide)]
      rfl
    · refine ⟨-1, Ev.bind h1 (ev_pos rfl (ev_bind0 rfl ?_)), Ev.bind (Ev.bind h2 (ev_pos rfl (ev_bind0 rfl (ev_some rfl)))) (ev_neg (by simpa using ha) (ev_some rfl))⟩
      rw [decide_eq_false ha]
      exact Ev.step (f := fun _ => some (-1)) (fun k => by simp [spec_Skip.j0]) (ev_some rfl)
end Go.Proofs.Ytocimkpafakiaaa.CoreSkipFnExactPackProg
