/- The program's Emit is the reference's, at all places, rooms and first steps; what is written into a row turns no other. -/
import Derived.Test.YtonlhgkpmjefkaaSayFnExactEmit
import Derived.Test.YtonlhgkpmjefkaaHlpFnExactEmit
import Derived.Test.YtonlhgkpmjefkaaMarksIntFnExactEmit
import Derived.Test.YtonlhgkpmjefkaaMarksStepFnExactEmit
import Derived.Test.YtonlhgkpmjefkaaCoreEmitFnExactEmit
namespace Go.Proofs.Ytonlhgkpmjefkaa.Pure
open Go.RowKit Go.Proofs.Ytonlhgkpmjefkaa.XFnExactEmit Go.Proofs.Ytonlhgkpmjefkaa.Lib Go.Proofs.Ytonlhgkpmjefkaa.HlpFnExactEmit Go.Proofs.Ytonlhgkpmjefkaa.MarksIntFnExactEmit Go.Proofs.Ytonlhgkpmjefkaa.MarksStepFnExactEmit Go.Proofs.Ytonlhgkpmjefkaa.CoreEmitFnExactEmit Go.Proofs.Ytonlhgkpmjefkaa.Opens Go.Proofs.YtonlhgkpmjefkaaW.PrintWords Go.Proofs.YtonlhgkpmjefkaaW.PrintLast Go.Proofs.YtonlhgkpmjefkaaW.PrintMore
open Go.Proofs.Ytonlhgkpmjefkaa
set_option linter.unusedVariables false
set_option linter.unusedSimpArgs false

theorem FnExactEmit : SayFnExactEmit.Pure := by
  rintro l0 ⟨x0, x1, x2, x3, x4⟩ fr l3 p0 p1 p2 p3
  refine Ev.rounds ?_
  unfold laws_FnExactEmit.f
  refine ev_ite (fun _ => ev_some rfl) (fun c0 => ev_ite (fun _ => ev_some rfl) (fun c3 => ?_))
  have h0 : l0.length ≤ 1048576 := by omega
  have h3 : l3.length ≤ 1048576 := by omega
  have hf : wrap64 fr = fr := w64 p2.1 p2.2
  obtain ⟨r, hr, e1, e2⟩ := emit_both l0 l3 h0 h3 x0 x1 x2 x3 x4 fr hf
  have t0 := toIntS_ev l0 h0
  have t3 := toIntS_ev l3 h3
  have q0 := eqIntS_ev l0 h0
  have q3 := eqIntS_ev l3 h3
  have qr := eqStepS_ev r (show r.length ≤ 1048576 by omega)
  obtain ⟨y0, m0, _, _⟩ := markInts_ev 1 (by omega) (by omega) l0 (by omega)
  obtain ⟨y3, m3, _, _⟩ := markInts_ev (1 + (l0.length : Int)) (by omega) (by omega) l3 (by omega)
  obtain ⟨ys, hm, hl, hi⟩ := markSteps_ev 1 (by omega) (by omega) r (by omega)
  have hh := heldSteps_ev 1 (by omega) (by omega) ys (by omega) hi
  rw [hl] at hh
  refine Ev.bind t0 (ev_bind0 rfl (Ev.bind t3 (Ev.bind e1 (Ev.bind t0 (Ev.bind t3 (ev_bind0 rfl (Ev.bind e2 (Ev.bind qr (ev_pos rfl (Ev.bind t0 (Ev.bind q0 (ev_pos rfl (Ev.bind t3 (Ev.bind q3 (ev_pos rfl (Ev.bind m0 (Ev.bind m3 (ev_neg (by show ¬ 1 + (l0.length : Int) + (l3.length : Int) < 0; omega) (Ev.bind qr ?_)))))))))))))))))))
  refine Ev.step (fun k => by rw [laws_FnExactEmit.j0]) (ev_neg (by decide) ?_)
  exact Ev.bind hm (Ev.bind hh (ev_neg (by omega) (ev_pos rfl (Ev.bind t0 (ev_bind0 rfl (Ev.bind t3 (Ev.bind e2 (Ev.bind qr (ev_pos rfl (Ev.bind hh (ev_neg (by omega) (ev_pos rfl (ev_some rfl)))))))))))))
end Go.Proofs.Ytonlhgkpmjefkaa.Pure
