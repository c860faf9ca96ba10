/- The program's ReachOf is the reference's, at all bodies and places; what is written into a row turns no other. -/
import Derived.Test.YtonlhgkpmjefkaaSayFnExactReachOf
import Derived.Test.YtonlhgkpmjefkaaHlpFnExactReachOf
import Derived.Test.YtonlhgkpmjefkaaCoreFlowFnExactReachOf
import Derived.Test.YtonlhgkpmjefkaaPureMarksFnExactReachOf
namespace Go.Proofs.Ytonlhgkpmjefkaa.Pure
open Go.RowKit Go.Proofs.Ytonlhgkpmjefkaa.XFnExactReachOf Go.Proofs.Ytonlhgkpmjefkaa.Lib Go.Proofs.Ytonlhgkpmjefkaa.HlpFnExactReachOf Go.Proofs.Ytonlhgkpmjefkaa.CoreInsFnExactReachOf Go.Proofs.Ytonlhgkpmjefkaa.CoreBodyFnExactReachOf Go.Proofs.Ytonlhgkpmjefkaa.CoreFlowFnExactReachOf Go.Proofs.Ytonlhgkpmjefkaa.PureMarksFnExactReachOf Go.Proofs.Ytonlhgkpmjefkaa.Opens Go.Proofs.YtonlhgkpmjefkaaW.PrintWords Go.Proofs.YtonlhgkpmjefkaaW.PrintLast Go.Proofs.YtonlhgkpmjefkaaW.PrintMore
open Go.Proofs.Ytonlhgkpmjefkaa
set_option linter.unusedVariables false
set_option linter.unusedSimpArgs false

theorem reachOf_both (l : List S37) (a : Int) (hl : l.length ≤ 1048576) : ∃ q : List Int, q.length ≤ 1048576 ∧ Ev (fun k => spec_ReachOf.f k l a) q ∧ Ev (fun k => impl_ReachOf.f k l a) q := by
  obtain ⟨b, h1, h2, h3⟩ := body_both l 3 hl
  unfold spec_ReachOf.f impl_ReachOf.f impl_placeIn.f
  have hw : wrap64 ((l.length : Int) - 1) = (l.length : Int) - 1 := w64 (by omega) (by omega)
  simp only [in_eq, within_eq, hw]
  have none_ : Ev (fun k => spec_ReachOf.j0 k l a true) [] := Ev.step (f := fun _ => some []) (fun k => by simp [spec_ReachOf.j0]) (ev_some rfl)
  cases b with
  | false => exact ⟨[], by simp, Ev.bind h1 (ev_neg (by decide) none_), Ev.bind (a := false) (Ev.bind h2 (ev_neg (by decide) (ev_some rfl))) (ev_neg (by decide) (ev_some rfl))⟩
  | true =>
    by_cases hi : 0 ≤ a ∧ a ≤ (l.length : Int) - 1
    · have hg := h3.1 rfl
      obtain ⟨r, hr, m1, m2⟩ := reach_both l hg [a] (fun y hy => by simp at hy; subst hy; omega) (by simp)
      obtain ⟨q, hq, w1, w2⟩ := where_both r true (by omega)
      refine ⟨q, by omega, Ev.bind h1 (ev_pos rfl (ev_bind0 rfl ?_)), Ev.bind (a := true) (Ev.bind h2 (ev_pos rfl (ev_bind0 rfl ?_))) (ev_pos rfl (Ev.bind m2 (Ev.bind w2 (ev_some rfl))))⟩
      · rw [decide_eq_true hi]
        refine Ev.step (fun k => by rw [spec_ReachOf.j0]) ?_
        exact ev_neg (by decide) (Ev.bind m1 (Ev.bind w1 (ev_some rfl)))
      · rw [decide_eq_true hi]
        exact ev_some rfl
    · refine ⟨[], by simp, Ev.bind h1 (ev_pos rfl (ev_bind0 rfl ?_)), Ev.bind (a := false) (Ev.bind h2 (ev_pos rfl (ev_bind0 rfl ?_))) (ev_neg (by decide) (ev_some rfl))⟩
      · rw [decide_eq_false hi]
        exact none_
      · rw [decide_eq_false hi]
        exact ev_some rfl
theorem FnExactReachOf : SayFnExactReachOf.Pure := by
  intro x a1 hx _
  refine Ev.rounds ?_
  obtain ⟨s, hs, _, hs2⟩ := szInsS_ev x hx.1 1048576 (by omega) (by omega)
  unfold laws_FnExactReachOf.f
  refine ev_bind0 hs (ev_ite (fun _ => ev_some rfl) (fun cc => ?_))
  have b1 := hs2 (by omega)
  have b2 := small_conv_InsS b1
  have ht := toInsS_ev x b1
  obtain ⟨q, hq, g1, g2⟩ := reachOf_both (conv_InsS x) a1 b2
  obtain ⟨zs, hz, hzl⟩ := markIns_ev 1 (by omega) (by omega) (conv_InsS x) (Nat.le_trans b2 (by omega))
  obtain ⟨ys, hy, hyl, hyi⟩ := markInts_ev 1 (by omega) (by omega) q (by omega)
  have hh := heldInts_ev 1 (by omega) (by omega) ys (by omega) hyi
  rw [hyl] at hh
  refine Ev.bind ht (Ev.bind g1 (Ev.bind ht (Ev.bind g2 (Ev.bind (eqIntS_ev q hq) (ev_pos rfl (Ev.bind ht (Ev.bind (eqInsS_ev _ b2) (ev_pos rfl (Ev.bind hz (ev_neg (by show ¬ (1 + 5 * ((conv_InsS x).length : Int)) < 0; omega) (Ev.bind (eqIntS_ev q hq) ?_)))))))))))
  refine Ev.step (fun k => by rw [laws_FnExactReachOf.j0]) (ev_neg (by decide) ?_)
  refine Ev.bind hy (Ev.bind hh (ev_neg (by omega) (ev_pos rfl (Ev.bind ht (Ev.bind g2 (Ev.bind (eqIntS_ev q hq) (ev_pos rfl (Ev.bind hh (ev_neg (by omega) (ev_pos rfl (ev_some rfl)))))))))))
end Go.Proofs.Ytonlhgkpmjefkaa.Pure
