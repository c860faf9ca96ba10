/- The program's DeadAt is the reference's, at all bodies; what is written into a row turns no other. -/
import Derived.Test.YtocimkpafakiaaaSayFnExactDeadAt
import Derived.Test.YtocimkpafakiaaaHlpFnExactDeadAt
import Derived.Test.YtocimkpafakiaaaMarksIntFnExactDeadAt
import Derived.Test.YtocimkpafakiaaaMarkInsFnExactDeadAt
import Derived.Test.YtocimkpafakiaaaCoreDeadFnExactDeadAt
namespace Go.Proofs.Ytocimkpafakiaaa.Pure
open Go.RowKit Go.Proofs.Ytocimkpafakiaaa.XFnExactDeadAt Go.Proofs.Ytocimkpafakiaaa.Lib Go.Proofs.Ytocimkpafakiaaa.HlpFnExactDeadAt Go.Proofs.Ytocimkpafakiaaa.MarksIntFnExactDeadAt Go.Proofs.Ytocimkpafakiaaa.MarkInsFnExactDeadAt Go.Proofs.Ytocimkpafakiaaa.CoreDeadFnExactDeadAt Go.Proofs.Ytocimkpafakiaaa.Opens Go.Proofs.YtocimkpafakiaaaW.PrintWords Go.Proofs.YtocimkpafakiaaaW.PrintLast Go.Proofs.YtocimkpafakiaaaW.PrintMore
open Go.Proofs.Ytocimkpafakiaaa
set_option linter.unusedVariables false
set_option linter.unusedSimpArgs false

theorem FnExactDeadAt : SayFnExactDeadAt.Pure := by
  intro x hx
  refine Ev.rounds ?_
  obtain ⟨s, hs, _, hs2⟩ := szInsS_ev x hx.1 1048576 (by omega) (by omega)
  unfold laws_FnExactDeadAt.f
  refine ev_bind0 hs (ev_ite (fun _ => ev_some rfl) (fun cc => ?_))
  have b1 := hs2 (by omega)
  have b2 := small_conv_InsS b1
  have ht := toInsS_ev x b1
  obtain ⟨q, hq, g1, g2⟩ := dead_both (conv_InsS x) b2
  have hq1 := hq.1
  have b3 : (conv_InsS x).length ≤ 1048576 := b2
  obtain ⟨zs, hz, hzl, _⟩ := markIns_ev 1 (by omega) (by omega) (conv_InsS x) (Nat.le_trans b3 (by omega))
  obtain ⟨ys, hy, hyl, hyi⟩ := markInts_ev 1 (by omega) (by omega) q (by omega)
  have hh := heldInts_ev 1 (by omega) (by omega) ys (by omega) hyi
  rw [hyl] at hh
  have he := eqIntS_ev q (show q.length ≤ 1048576 by omega)
  refine Ev.bind ht (Ev.bind g1 (Ev.bind ht (Ev.bind g2 (Ev.bind he (ev_pos rfl (Ev.bind ht (Ev.bind (eqInsS_ev _ b2) (ev_pos rfl (Ev.bind hz (ev_neg (by show ¬ (1 + 5 * ((conv_InsS x).length : Int)) < 0; omega) (Ev.bind he ?_)))))))))))
  refine Ev.step (fun k => by rw [laws_FnExactDeadAt.j0]) (ev_neg (by decide) ?_)
  exact Ev.bind hy (Ev.bind hh (ev_neg (by show ¬ (1 + (q.length : Int)) < 0; omega) (ev_pos rfl (Ev.bind ht (Ev.bind g2 (Ev.bind he (ev_pos rfl (Ev.bind hh (ev_neg (by show ¬ (1 + (q.length : Int)) < 0; omega) (ev_pos rfl (ev_some rfl)))))))))))
end Go.Proofs.Ytocimkpafakiaaa.Pure
