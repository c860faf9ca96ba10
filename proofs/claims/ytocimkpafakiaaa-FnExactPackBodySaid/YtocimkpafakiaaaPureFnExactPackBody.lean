/- The program's PackBody is the reference's, at all bodies; what is written into a row turns no other. -/
import Derived.Test.YtocimkpafakiaaaSayFnExactPackBody
import Derived.Test.YtocimkpafakiaaaHlpFnExactPackBody
import Derived.Test.YtocimkpafakiaaaMarksInsFnExactPackBody
import Derived.Test.YtocimkpafakiaaaCorePackFnExactPackBody
namespace Go.Proofs.Ytocimkpafakiaaa.Pure
open Go.RowKit Go.Proofs.Ytocimkpafakiaaa.XFnExactPackBody Go.Proofs.Ytocimkpafakiaaa.Lib Go.Proofs.Ytocimkpafakiaaa.HlpFnExactPackBody Go.Proofs.Ytocimkpafakiaaa.MarksInsFnExactPackBody Go.Proofs.Ytocimkpafakiaaa.CorePackFnExactPackBody Go.Proofs.Ytocimkpafakiaaa.Opens Go.Proofs.YtocimkpafakiaaaW.PrintWords Go.Proofs.YtocimkpafakiaaaW.PrintLast Go.Proofs.YtocimkpafakiaaaW.PrintMore
open Go.Proofs.Ytocimkpafakiaaa
set_option linter.unusedVariables false
set_option linter.unusedSimpArgs false

theorem FnExactPackBody : SayFnExactPackBody.Pure := by
  intro x hx
  refine Ev.rounds ?_
  obtain ⟨s, hs, _, hs2⟩ := szInsS_ev x hx.1 1048576 (by omega) (by omega)
  unfold laws_FnExactPackBody.f
  refine ev_bind0 hs (ev_ite (fun _ => ev_some rfl) (fun cc => ?_))
  have b1 := hs2 (by omega)
  have b2 := small_conv_InsS b1
  have ht := toInsS_ev x b1
  obtain ⟨q, hq, g1, g2⟩ := packBody_both (conv_InsS x) b2
  obtain ⟨zs, hz, hzl, _⟩ := markIns_ev 1 (by omega) (by omega) (conv_InsS x) (Nat.le_trans b2 (by omega))
  obtain ⟨ys, hy, hyl, hyi⟩ := markIns_ev 1 (by omega) (by omega) q (by omega)
  have hh := heldIns_ev 1 (by omega) (by omega) ys (by omega) hyi
  rw [hyl] at hh
  refine Ev.bind ht (Ev.bind g1 (Ev.bind ht (Ev.bind g2 (Ev.bind (eqInsS_ev q hq) (ev_pos rfl (Ev.bind ht (Ev.bind (eqInsS_ev _ b2) (ev_pos rfl (Ev.bind hz (ev_neg (by show ¬ (1 + 5 * ((conv_InsS x).length : Int)) < 0; omega) (Ev.bind (eqInsS_ev q hq) ?_)))))))))))
  refine Ev.step (fun k => by rw [laws_FnExactPackBody.j0]) (ev_neg (by decide) ?_)
  refine Ev.bind hy (Ev.bind hh (ev_neg (by omega) (ev_pos rfl (Ev.bind ht (Ev.bind g2 (Ev.bind (eqInsS_ev q hq) (ev_pos rfl (Ev.bind hh (ev_neg (by omega) (ev_pos rfl (ev_some rfl)))))))))))
end Go.Proofs.Ytocimkpafakiaaa.Pure
