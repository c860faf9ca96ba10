/- The program's Skip is the reference's, at all bodies and places. -/
import Derived.Test.YtonlhgkpmjefkaaSayFnExactSkip
import Derived.Test.YtonlhgkpmjefkaaHlpFnExactSkip
import Derived.Test.YtonlhgkpmjefkaaCoreBodyFnExactSkip
namespace Go.Proofs.Ytonlhgkpmjefkaa.Pure
open Go.RowKit Go.Proofs.Ytonlhgkpmjefkaa.XFnExactSkip Go.Proofs.Ytonlhgkpmjefkaa.Lib Go.Proofs.Ytonlhgkpmjefkaa.HlpFnExactSkip Go.Proofs.Ytonlhgkpmjefkaa.CoreInsFnExactSkip Go.Proofs.Ytonlhgkpmjefkaa.CoreBodyFnExactSkip Go.Proofs.Ytonlhgkpmjefkaa.Opens Go.Proofs.YtonlhgkpmjefkaaW.PrintWords Go.Proofs.YtonlhgkpmjefkaaW.PrintLast Go.Proofs.YtonlhgkpmjefkaaW.PrintMore
open Go.Proofs.Ytonlhgkpmjefkaa
set_option linter.unusedVariables false
set_option linter.unusedSimpArgs false

theorem stays (l : List S37) (hl : l.length ≤ 1048576) (at_ : Nat) (ha : at_ < l.length) (hj : (l.getD at_ z37).f0 ≠ 11) : ∀ (n i : Nat), i + n = l.length → Ev (fun k => impl_Skip.l0 k l (at_ : Int) (l.length : Int) i) (at_ : Int) := by
  intro n
  induction n with
  | zero =>
    intro i hi
    refine Ev.step (f := fun _ => some (at_ : Int)) (fun k => ?_) (ev_some rfl)
    rw [impl_Skip.l0, if_neg (by omega)]
  | succ n ih =>
    intro i hi
    refine Ev.step (fun k => ?_) (ih (i + 1) (by omega))
    rw [impl_Skip.l0, if_pos (by omega), if_pos (by omega), if_pos (by omega), rdIns_nat, if_neg hj, w64_nat (by omega)]
theorem goes (l : List S37) (hl : l.length ≤ 1048576) (hg : ∀ i, i < l.length → AtGood l 3 i) : ∀ (n i at_ : Nat), i + n = l.length → at_ < l.length → ∃ r, Ev (fun k => spec_Skip.l0 k l (at_ : Int) i) r ∧ Ev (fun k => impl_Skip.l0 k l (at_ : Int) (l.length : Int) i) r := by
  intro n
  induction n with
  | zero =>
    intro i at_ hi ha
    refine ⟨(at_ : Int), Ev.step (f := fun _ => some (at_ : Int)) (fun k => ?_) (ev_some rfl), Ev.step (f := fun _ => some (at_ : Int)) (fun k => ?_) (ev_some rfl)⟩
    · rw [spec_Skip.l0, if_neg (by omega)]
    · rw [impl_Skip.l0, if_neg (by omega)]
  | succ n ih =>
    intro i at_ hi ha
    by_cases hj : (l.getD at_ z37).f0 = 11
    · have hn : 0 ≤ (l.getD at_ z37).f4 ∧ (l.getD at_ z37).f4 < (l.length : Int) := by
        have h := (hg at_ ha).2.2.2.2
        rw [hj] at h
        simp only [Int.reduceEq, false_and, true_and, false_or, or_false, or_self] at h
        exact h.1
      obtain ⟨m, hm⟩ : ∃ m : Nat, (l.getD at_ z37).f4 = (m : Int) := ⟨(l.getD at_ z37).f4.toNat, by omega⟩
      rw [hm] at hn
      obtain ⟨r, h1, h2⟩ := ih (i + 1) m (by omega) (by omega)
      refine ⟨r, Ev.step (fun k => ?_) h1, Ev.step (fun k => ?_) h2⟩
      · rw [spec_Skip.l0, if_pos (by omega), if_pos (by omega), if_pos (by omega), rdIns_nat, if_pos hj, hm, w64_nat (by omega)]
      · rw [impl_Skip.l0, if_pos (by omega), if_pos (by omega), if_pos (by omega), rdIns_nat, if_pos hj, hm, w64_nat (by omega)]
    · refine ⟨(at_ : Int), Ev.step (f := fun _ => some (at_ : Int)) (fun k => ?_) (ev_some rfl), stays l hl at_ ha hj (n + 1) i (by omega)⟩
      rw [spec_Skip.l0, if_pos (by omega), if_pos (by omega), if_pos (by omega), rdIns_nat, if_neg hj]
theorem skip_both (l : List S37) (hl : l.length ≤ 1048576) (a : Int) : ∃ r, Ev (fun k => spec_Skip.f k l a) r ∧ Ev (fun k => impl_Skip.f k l a) r := by
  obtain ⟨b, h1, h2, h3⟩ := body_both l 3 hl
  unfold spec_Skip.f impl_Skip.f impl_placeIn.f
  have hw : wrap64 ((l.length : Int) - 1) = (l.length : Int) - 1 := w64 (by omega) (by omega)
  simp only [in_eq, within_eq, hw]
  cases b with
  | false =>
    refine ⟨-1, Ev.bind h1 (ev_neg (by decide) (Ev.step (f := fun _ => some (-1)) (fun k => by simp [spec_Skip.j0]) (ev_some rfl))), Ev.bind (Ev.bind h2 (ev_neg (by decide) (ev_some rfl))) (ev_neg (by decide) (ev_some rfl))⟩
  | true =>
    have hg := h3.1 rfl
    by_cases ha : 0 ≤ a ∧ a ≤ (l.length : Int) - 1
    · obtain ⟨m, rfl⟩ : ∃ m : Nat, a = (m : Int) := ⟨a.toNat, by omega⟩
      obtain ⟨r, g1, g2⟩ := goes l hl hg.2.2.1 l.length 0 m (by omega) (by omega)
      refine ⟨r, Ev.bind h1 (ev_pos rfl (ev_bind0 rfl ?_)), Ev.bind (Ev.bind h2 (ev_pos rfl (ev_bind0 rfl (ev_some rfl)))) (ev_pos (decide_eq_true ha) g2)⟩
      rw [decide_eq_true ha]
      refine Ev.step (fun k => ?_) g1
      rw [spec_Skip.j0, if_neg (by decide)]
      rfl
    · refine ⟨-1, Ev.bind h1 (ev_pos rfl (ev_bind0 rfl ?_)), Ev.bind (Ev.bind h2 (ev_pos rfl (ev_bind0 rfl (ev_some rfl)))) (ev_neg (by simpa using ha) (ev_some rfl))⟩
      rw [decide_eq_false ha]
      exact Ev.step (f := fun _ => some (-1)) (fun k => by simp [spec_Skip.j0]) (ev_some rfl)
theorem FnExactSkip : SayFnExactSkip.Pure := by
  intro x a hx ha
  refine Ev.rounds ?_
  obtain ⟨s, hs, _, hs2⟩ := szInsS_ev x hx.1 1048576 (by omega) (by omega)
  unfold laws_FnExactSkip.f
  refine ev_bind0 hs (ev_ite (fun _ => ev_some rfl) (fun cc => ?_))
  have b1 := hs2 (by omega)
  have b4 := small_conv_InsS b1
  obtain ⟨r, g1, g2⟩ := skip_both (conv_InsS x) b4 a
  have ht := toInsS_ev x b1
  exact Ev.bind ht (Ev.bind g1 (Ev.bind ht (Ev.bind g2 (ev_pos rfl (Ev.bind ht (Ev.bind (eqInsS_ev _ b4) (ev_pos rfl (ev_some rfl))))))))
end Go.Proofs.Ytonlhgkpmjefkaa.Pure
