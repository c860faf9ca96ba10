/- The program's FoldBody is the reference's, at all bodies; what is written into a row turns no other. -/
import Derived.Test.YtocimkpafakiaaaSayFnExactFoldBody
import Derived.Test.YtocimkpafakiaaaHlpFnExactFoldBody
import Derived.Test.YtocimkpafakiaaaMarksInsFnExactFoldBody
import Derived.Test.YtocimkpafakiaaaCoreKnownFnExactFoldBody
namespace Go.Proofs.Ytocimkpafakiaaa.Pure
open Go.RowKit Go.Proofs.Ytocimkpafakiaaa.XFnExactFoldBody Go.Proofs.Ytocimkpafakiaaa.Lib Go.Proofs.Ytocimkpafakiaaa.HlpFnExactFoldBody Go.Proofs.Ytocimkpafakiaaa.MarksInsFnExactFoldBody Go.Proofs.Ytocimkpafakiaaa.CoreKnownFnExactFoldBody Go.Proofs.Ytocimkpafakiaaa.CoreFoldOneFnExactFoldBody Go.Proofs.Ytocimkpafakiaaa.Opens Go.Proofs.YtocimkpafakiaaaW.PrintWords Go.Proofs.YtocimkpafakiaaaW.PrintLast Go.Proofs.YtocimkpafakiaaaW.PrintMore
open Go.Proofs.Ytocimkpafakiaaa
set_option linter.unusedVariables false
set_option linter.unusedSimpArgs false

theorem fold_l (l : List S63) (hl : l.length ≤ 1048576) (q : List (List S83)) (hq : q.length ≤ l.length) : ∀ (n i : Nat) (out : List S63), i + n = q.length → out.length = l.length → ∃ r : List S63, r.length = l.length ∧ Ev (fun k => spec_FoldBody.l0 k l out q i) r ∧ Ev (fun k => impl_FoldBody.l0 k l out q (q.length : Int) i) r := by
  intro n
  induction n with
  | zero =>
    intro i out hi ho
    refine ⟨out, ho, Ev.step (f := fun _ => some out) (fun k => ?_) (ev_some rfl), Ev.step (f := fun _ => some out) (fun k => ?_) (ev_some rfl)⟩
    · rw [spec_FoldBody.l0, if_neg (by omega)]
    · rw [impl_FoldBody.l0, if_neg (by omega)]
  | succ n ih =>
    intro i out hi ho
    obtain ⟨g, hg⟩ : ∃ g, g = foG (rd_T63 l (i : Int)).f0 (rd_T63 l (i : Int)).f1 (rd_T63 l (i : Int)).f2 (rd_T63 l (i : Int)).f3 (rd_T63 l (i : Int)).f4 (rd_L5 q (i : Int)) ((i + 1 : Nat) : Int) := ⟨_, rfl⟩
    obtain ⟨r, r1, r2, r3⟩ := ih (i + 1) (out.set i (⟨g.1, g.2.1, g.2.2.1, g.2.2.2.1, g.2.2.2.2⟩ : S63)) (by omega) (by rw [List.length_set]; exact ho)
    have hs := spec_fold (rd_T63 l (i : Int)).f0 (rd_T63 l (i : Int)).f1 (rd_T63 l (i : Int)).f2 (rd_T63 l (i : Int)).f3 (rd_T63 l (i : Int)).f4 (rd_L5 q (i : Int)) ((i + 1 : Nat) : Int)
    rw [← hg] at hs
    refine ⟨r, r1, ?_, ?_⟩
    · refine Ev.step (fun k => by rw [spec_FoldBody.l0]) ?_
      rw [w64_nat (by omega), Int.toNat_natCast]
      exact ev_pos (by omega) (ev_pos (by omega) (ev_pos (by omega) (Ev.bind hs (ev_pos (by omega) r2))))
    · refine Ev.step (fun k => by rw [impl_FoldBody.l0]) ?_
      rw [w64_nat (by omega), Int.toNat_natCast]
      refine ev_pos (by omega) (ev_pos (by omega) (ev_pos (by omega) (ev_pos (by omega) (ev_bind0 (x := g) ?_ (ev_pos (by omega) r3)))))
      unfold impl_FoldOne.f
      rw [hg]
theorem fold_both (l : List S63) (hl : l.length ≤ 1048576) : ∃ r : List S63, r.length = l.length ∧ Ev (fun k => spec_FoldBody.f k l) r ∧ Ev (fun k => impl_FoldBody.f k l) r := by
  obtain ⟨q, g1, g2, _, g4⟩ := known_both l hl
  have hq : q.length ≤ l.length := by
    rcases g4 with ⟨_, h⟩ | ⟨_, h⟩
    · rw [h]; simp
    · omega
  obtain ⟨r, r1, r2, r3⟩ := fold_l l hl q hq q.length 0 l (by omega) rfl
  refine ⟨r, r1, ?_, ?_⟩
  · unfold spec_FoldBody.f
    refine ev_bind0 rfl (ev_pos (by simp; omega) (Ev.bind g1 ?_))
    rw [List.nil_append]
    exact r2
  · unfold impl_FoldBody.f impl_copyBody.f
    refine ev_bind0 (x := l) ?_ (Ev.bind g2 r3)
    simp only [Option.bind_some, List.length_nil, List.nil_append]
    rw [if_pos (by omega)]
theorem FnExactFoldBody : SayFnExactFoldBody.Pure := by
  intro x hx
  refine Ev.rounds ?_
  obtain ⟨s, hs, _, hs2⟩ := szInsS_ev x hx.1 1048576 (by omega) (by omega)
  unfold laws_FnExactFoldBody.f
  refine ev_bind0 hs (ev_ite (fun _ => ev_some rfl) (fun cc => ?_))
  have b1 := hs2 (by omega)
  have b2 := small_conv_InsS b1
  have ht := toInsS_ev x b1
  have b3 : (conv_InsS x).length ≤ 1048576 := b2
  obtain ⟨q, hq, g1, g2⟩ := fold_both (conv_InsS x) b2
  obtain ⟨zs, hz, hzl, _⟩ := markIns_ev 1 (by omega) (by omega) (conv_InsS x) (Nat.le_trans b3 (by omega))
  obtain ⟨ys, hy, hyl, hyi⟩ := markIns_ev 1 (by omega) (by omega) q (by omega)
  have hh := heldIns_ev 1 (by omega) (by omega) ys (by omega) hyi
  rw [hyl] at hh
  have he := eqInsS_ev q (show q.length ≤ 1048576 by omega)
  refine Ev.bind ht (Ev.bind g1 (Ev.bind ht (Ev.bind g2 (Ev.bind he (ev_pos rfl (Ev.bind ht (Ev.bind (eqInsS_ev _ b2) (ev_pos rfl (Ev.bind hz (ev_neg (by show ¬ (1 + 5 * ((conv_InsS x).length : Int)) < 0; omega) (Ev.bind he ?_)))))))))))
  refine Ev.step (fun k => by rw [laws_FnExactFoldBody.j0]) (ev_neg (by decide) ?_)
  exact Ev.bind hy (Ev.bind hh (ev_neg (by omega) (ev_pos rfl (Ev.bind ht (Ev.bind g2 (Ev.bind he (ev_pos rfl (Ev.bind hh (ev_neg (by omega) (ev_pos rfl (ev_some rfl)))))))))))
end Go.Proofs.Ytocimkpafakiaaa.Pure
