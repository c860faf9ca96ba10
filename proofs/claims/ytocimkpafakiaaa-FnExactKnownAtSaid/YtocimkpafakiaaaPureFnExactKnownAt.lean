/- The program's KnownAt is the reference's, at all bodies; what is written into a row turns no other. -/
import Derived.Test.YtocimkpafakiaaaSayFnExactKnownAt
import Derived.Test.YtocimkpafakiaaaHlpFnExactKnownAt
import Derived.Test.YtocimkpafakiaaaMarksKnownSSFnExactKnownAt
import Derived.Test.YtocimkpafakiaaaMarkInsFnExactKnownAt
import Derived.Test.YtocimkpafakiaaaCoreKnownFnExactKnownAt
namespace Go.Proofs.Ytocimkpafakiaaa.Pure
open Go.RowKit Go.Proofs.Ytocimkpafakiaaa.XFnExactKnownAt Go.Proofs.Ytocimkpafakiaaa.Lib Go.Proofs.Ytocimkpafakiaaa.HlpFnExactKnownAt Go.Proofs.Ytocimkpafakiaaa.MarksKnownSSFnExactKnownAt Go.Proofs.Ytocimkpafakiaaa.MarkInsFnExactKnownAt Go.Proofs.Ytocimkpafakiaaa.CoreKnownFnExactKnownAt Go.Proofs.Ytocimkpafakiaaa.Opens Go.Proofs.YtocimkpafakiaaaW.PrintWords Go.Proofs.YtocimkpafakiaaaW.PrintLast Go.Proofs.YtocimkpafakiaaaW.PrintMore
open Go.Proofs.Ytocimkpafakiaaa
set_option linter.unusedVariables false
set_option linter.unusedSimpArgs false

theorem FnExactKnownAt : SayFnExactKnownAt.Pure := by
  intro x hx
  refine Ev.rounds ?_
  obtain ⟨s, hs, _, hs2⟩ := szInsS_ev x hx.1 1048576 (by omega) (by omega)
  unfold laws_FnExactKnownAt.f
  refine ev_bind0 hs (ev_ite (fun _ => ev_some rfl) (fun cc => ?_))
  have b1 := hs2 (by omega)
  have b2 := small_conv_InsS b1
  have ht := toInsS_ev x b1
  have b3 : (conv_InsS x).length ≤ 1048576 := b2
  obtain ⟨q, g1, g2, g3, g4⟩ := known_both (conv_InsS x) b2
  have hq : q.length ≤ 1048576 := by
    rcases g4 with ⟨_, h⟩ | ⟨_, h⟩
    · rw [h]; simp
    · omega
  obtain ⟨zs, hz, hzl, _⟩ := markIns_ev 1 (by omega) (by omega) (conv_InsS x) (Nat.le_trans b3 (by omega))
  obtain ⟨m, ys, hm0, hm, hh⟩ := marks_ev q hq (fun y hy => Nat.le_of_eq (g3 y hy))
  have he := eqKnownSS_ev q ⟨hq, fun y hy => Nat.le_trans (Nat.le_of_eq (g3 y hy)) (by omega)⟩
  refine Ev.bind ht (Ev.bind g1 (Ev.bind g2 (Ev.bind he (Ev.bind (eqInsS_ev _ b2) (Ev.bind hz (Ev.bind hm (Ev.bind hh (ev_pos ?_ (ev_some rfl)))))))))
  exact ⟨rfl, rfl, by show 0 ≤ 1 + 5 * ((conv_InsS x).length : Int); omega, rfl, hm0⟩
end Go.Proofs.Ytocimkpafakiaaa.Pure
