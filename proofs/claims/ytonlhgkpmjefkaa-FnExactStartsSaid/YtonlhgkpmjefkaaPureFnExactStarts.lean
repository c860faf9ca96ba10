/- The program's Starts is the reference's, at all programs and bodies; what is written into a row turns no other. -/
import Derived.Test.YtonlhgkpmjefkaaSayFnExactStarts
import Derived.Test.YtonlhgkpmjefkaaHlpFnExactStarts
import Derived.Test.YtonlhgkpmjefkaaCoreStartsFnExactStarts
import Derived.Test.YtonlhgkpmjefkaaPureMarksFnExactStarts
namespace Go.Proofs.Ytonlhgkpmjefkaa.Pure
open Go.RowKit Go.Proofs.Ytonlhgkpmjefkaa.XFnExactStarts Go.Proofs.Ytonlhgkpmjefkaa.Lib Go.Proofs.Ytonlhgkpmjefkaa.HlpFnExactStarts Go.Proofs.Ytonlhgkpmjefkaa.CoreInsFnExactStarts Go.Proofs.Ytonlhgkpmjefkaa.CoreBodyFnExactStarts Go.Proofs.Ytonlhgkpmjefkaa.CoreProgFnExactStarts Go.Proofs.Ytonlhgkpmjefkaa.CoreStartsFnExactStarts Go.Proofs.Ytonlhgkpmjefkaa.PureMarksFnExactStarts Go.Proofs.Ytonlhgkpmjefkaa.Opens Go.Proofs.YtonlhgkpmjefkaaW.PrintWords Go.Proofs.YtonlhgkpmjefkaaW.PrintLast Go.Proofs.YtonlhgkpmjefkaaW.PrintMore
open Go.Proofs.Ytonlhgkpmjefkaa
set_option linter.unusedVariables false
set_option linter.unusedSimpArgs false

theorem starts_both (c : List Int) (b : List (List S37)) (hc : c.length ≤ 1048576) (hb : b.length ≤ 1048576) (he : ∀ y ∈ b, y.length ≤ 1048576) (body : Int) : ∃ r : List Int, r.length ≤ 1048576 ∧ Ev (fun k => spec_Starts.f k c b body) r ∧ Ev (fun k => impl_Starts.f k c b body) r := by
  obtain ⟨q, h1, h2, h3⟩ := prog_both c b hc hb he
  unfold spec_Starts.f impl_Starts.f
  have hw : wrap64 ((b.length : Int) - 1) = (b.length : Int) - 1 := w64 (by omega) (by omega)
  simp only [in_eq, within_eq, hw]
  cases q with
  | false => exact ⟨[], by simp, Ev.bind h1 (ev_neg (by decide) (ev_some rfl)), Ev.bind h2 (ev_neg (by decide) (ev_some rfl))⟩
  | true =>
    by_cases hi : 0 ≤ body ∧ body ≤ (b.length : Int) - 1
    · obtain ⟨m, rfl⟩ : ∃ m : Nat, body = (m : Int) := ⟨body.toNat, by omega⟩
      have hm : m < b.length := by omega
      have hl := he _ (L_mem b [] m hm)
      have hs := spec_starts_ev (b.getD m []) hl
      have his := impl_starts_ev (b.getD m []) hl
      refine ⟨firsts (b.getD m []) (b.getD m []).length, by rw [firsts_length]; exact hl, Ev.bind h1 (ev_pos rfl (ev_bind0 rfl (ev_pos (decide_eq_true hi) (ev_pos (by omega) (ev_pos (by omega) ?_))))), Ev.bind h2 (ev_pos rfl (ev_bind0 rfl (ev_pos (decide_eq_true hi) (ev_pos (by omega) (ev_pos (by omega) ?_)))))⟩
      · rw [rdBody_nat]
        refine Ev.bind hs ?_
        have hlast : wrap64 (((firsts (b.getD m []) ((b.getD m []).length + 1)).length : Int) - 1) = ((b.getD m []).length : Int) := by
          rw [firsts_length, w64 (by omega) (by omega)]
          omega
        rw [hlast]
        refine ev_bind0 rfl (ev_pos (by omega) (ev_pos (by rw [firsts_length]; omega) (ev_bind0 rfl ?_)))
        rw [Int.toNat_natCast, firsts_succ, List.take_left' (firsts_length _ _)]
        exact ev_pos (by rw [firsts_length]; rw [List.length_nil]; omega) (ev_some rfl)
      · rw [rdBody_nat]
        exact Ev.bind his (ev_some rfl)
    · exact ⟨[], by simp, Ev.bind h1 (ev_pos rfl (ev_bind0 rfl (ev_neg (by simpa using hi) (ev_some rfl)))), Ev.bind h2 (ev_pos rfl (ev_bind0 rfl (ev_neg (by simpa using hi) (ev_some rfl))))⟩
theorem FnExactStarts : SayFnExactStarts.Pure := by
  rintro ⟨c, x⟩ a1 ⟨m1, m2⟩ _
  refine Ev.rounds ?_
  obtain ⟨s, hs, _, hs2⟩ := szProg_ev c x m1.1 ⟨m2.1, fun z hz => (m2.2 z hz).1⟩ 1048576 (by omega) (by omega)
  unfold laws_FnExactStarts.f
  refine Ev.bind hs (ev_ite (fun _ => ev_some rfl) (fun cc => ?_))
  obtain ⟨b1, b2⟩ := hs2 (by omega)
  have b4 := small_conv_InsSS b2
  obtain ⟨r, hr, g1, g2⟩ := starts_both c (conv_InsSS x) b1 b4.1 b4.2 a1
  have ht := toProg_ev c x b1 b2
  obtain ⟨v, q1, q2, hq, hv⟩ := markProg_ev c (conv_InsSS x) b1 b4.1 b4.2
  obtain ⟨ys, hy, hyl, hyi⟩ := markInts_ev 1 (by omega) (by omega) r (by omega)
  have hh := heldInts_ev 1 (by omega) (by omega) ys (by omega) hyi
  refine Ev.bind ht (Ev.bind g1 (Ev.bind g2 (Ev.bind (eqIntS_ev r hr) (Ev.bind (eqProg_ev c _ b1 b4) (Ev.bind hq (Ev.bind hy (Ev.bind hh (ev_pos ⟨rfl, rfl, hv, ?_, ?_⟩ (ev_some rfl)))))))))
  · rw [hyl]
  · show 0 ≤ 1 + (r.length : Int)
    omega
end Go.Proofs.Ytonlhgkpmjefkaa.Pure
