import Derived.Test.YtocimkpafakiaaaSayFnExactTrimBody
import Derived.Test.YtocimkpafakiaaaHlpFnExactTrimBody
import Derived.Test.YtocimkpafakiaaaMarksInsFnExactTrimBody
import Derived.Test.YtocimkpafakiaaaCoreDeadFnExactTrimBody
namespace Go.Proofs.Ytocimkpafakiaaa.Pure
open Go.RowKit Go.Proofs.Ytocimkpafakiaaa.XFnExactTrimBody Go.Proofs.Ytocimkpafakiaaa.Lib Go.Proofs.Ytocimkpafakiaaa.HlpFnExactTrimBody Go.Proofs.Ytocimkpafakiaaa.MarksInsFnExactTrimBody Go.Proofs.Ytocimkpafakiaaa.CoreDeadFnExactTrimBody Go.Proofs.Ytocimkpafakiaaa.Opens Go.Proofs.YtocimkpafakiaaaW.PrintWords Go.Proofs.YtocimkpafakiaaaW.PrintLast Go.Proofs.YtocimkpafakiaaaW.PrintMore
open Go.Proofs.Ytocimkpafakiaaa
set_option linter.unusedVariables false
set_option linter.unusedSimpArgs false
theorem trim_l (d : List Int) (hd : d.length ≤ 1048576) (m : Nat) (hin : ∀ y ∈ d, 0 ≤ y ∧ y < (m : Int)) : ∀ (n i : Nat) (out : List S63), i + n = d.length → out.length = m → ∃ r : List S63, r.length = m ∧ Ev (fun k => spec_TrimBody.l0 k out d i) r ∧ Ev (fun k => impl_TrimBody.l0 k out d (d.length : Int) i) r := by
  intro n
  induction n with
  | zero =>
    intro i out hi ho
    refine ⟨out, ho, Ev.step (f := fun _ => some out) (fun k => ?_) (ev_some rfl), Ev.step (f := fun _ => some out) (fun k => ?_) (ev_some rfl)⟩
    · rw [spec_TrimBody.l0, if_neg (by omega)]
    · rw [impl_TrimBody.l0, if_neg (by omega)]
  | succ n ih =>
    intro i out hi ho
    have hy := hin (rd d (i : Int)) (by rw [rd_nat, List.getD_eq_getElem?_getD, List.getElem?_eq_getElem (by omega)]; exact List.getElem_mem (by omega))
    obtain ⟨r, r1, r2, r3⟩ := ih (i + 1) (out.set (rd d (i : Int)).toNat (⟨11, 0, 0, 0, wrap64 ((rd d (i : Int)) + 1)⟩ : S63)) (by omega) (by rw [List.length_set]; exact ho)
    refine ⟨r, r1, Ev.step (fun k => ?_) r2, Ev.step (fun k => ?_) r3⟩
    · rw [spec_TrimBody.l0, if_pos (by omega), if_pos (by omega), if_pos (by omega), if_pos (by omega), w64_nat (by omega)]
    · rw [impl_TrimBody.l0, if_pos (by omega), if_pos (by omega), if_pos (by omega), if_pos (by omega), if_pos (by omega), w64_nat (by omega)]
theorem trim_both (l : List S63) (hl : l.length ≤ 1048576) : ∃ r : List S63, r.length = l.length ∧ Ev (fun k => spec_TrimBody.f k l) r ∧ Ev (fun k => impl_TrimBody.f k l) r := by
  obtain ⟨d, hd, g1, g2⟩ := dead_both l hl
  have hd1 := hd.1
  obtain ⟨r, r1, r2, r3⟩ := trim_l d (by omega) l.length hd.2 d.length 0 l (by omega) rfl
  refine ⟨r, r1, ?_, ?_⟩
  · unfold spec_TrimBody.f
    refine ev_bind0 rfl (ev_pos (by simp; omega) (Ev.bind g1 ?_))
    rw [List.nil_append]
    exact r2
  · unfold impl_TrimBody.f impl_copyBody.f
    refine ev_bind0 (x := l) ?_ (Ev.bind g2 r3)
    simp only [Option.bind_some, List.length_nil, List.nil_append]
    rw [if_pos (by omega)]
theorem FnExactTrimBody : SayFnExactTrimBody.Pure := by
  intro x hx
  refine Ev.rounds ?_
  obtain ⟨s, hs, _, hs2⟩ := szInsS_ev x hx.1 1048576 (by omega) (by omega)
  unfold laws_FnExactTrimBody.f
  refine ev_bind0 hs (ev_ite (fun _ => ev_some rfl) (fun cc => ?_))
  have b1 := hs2 (by omega)
  have b2 := small_conv_InsS b1
  have ht := toInsS_ev x b1
  have b3 : (conv_InsS x).length ≤ 1048576 := b2
  obtain ⟨q, hq, g1, g2⟩ := trim_both (conv_InsS x) b2
  obtain ⟨zs, hz, hzl, _⟩ := markIns_ev 1 (by omega) (by omega) (conv_InsS x) (Nat.le_trans b3 (by omega))
  obtain ⟨ys, hy, hyl, hyi⟩ := markIns_ev 1 (by omega) (by omega) q (by omega)
  have hh := heldIns_ev 1 (by omega) (by omega) ys (by omega) hyi
  rw [hyl] at hh
  have he := eqInsS_ev q (show q.length ≤ 1048576 by omega)
  refine Ev.bind ht (Ev.bind g1 (Ev.bind ht (Ev.bind g2 (Ev.bind he (ev_pos rfl (Ev.bind ht (Ev.bind (eqInsS_ev _ b2) (ev_pos rfl (Ev.bind hz (ev_neg (by show ¬ (1 + 5 * ((conv_InsS x).length : Int)) < 0; omega) (Ev.bind he ?_)))))))))))
  refine Ev.step (fun k => by rw [laws_FnExactTrimBody.j0]) (ev_neg (by decide) ?_)
  exact Ev.bind hy (Ev.bind hh (ev_neg (by omega) (ev_pos rfl (Ev.bind ht (Ev.bind g2 (Ev.bind he (ev_pos rfl (Ev.bind hh (ev_neg (by omega) (ev_pos rfl (ev_some rfl)))))))))))
end Go.Proofs.Ytocimkpafakiaaa.Pure
