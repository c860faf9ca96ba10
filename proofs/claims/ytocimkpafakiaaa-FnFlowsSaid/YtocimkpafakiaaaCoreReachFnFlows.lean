/- NextOf, ReachOf, Unreached and LoopsAt answer alike by the program and the reference, and what they answer; for all bodies. -/
import Derived.Test.YtocimkpafakiaaaXFnFlowsx14
import Derived.Test.YtocimkpafakiaaaCoreWhereFnFlows
namespace Go.Proofs.Ytocimkpafakiaaa.CoreReachFnFlows
open Go.RowKit Go.Proofs.Ytocimkpafakiaaa.XFnFlows Go.Proofs.Ytocimkpafakiaaa.Lib Go.Proofs.Ytocimkpafakiaaa.CoreInsFnFlows Go.Proofs.Ytocimkpafakiaaa.CoreBodyFnFlows Go.Proofs.Ytocimkpafakiaaa.CoreFlowFnFlows Go.Proofs.Ytocimkpafakiaaa.CoreWhereFnFlows Go.Proofs.YtocimkpafakiaaaW.PrintWords Go.Proofs.YtocimkpafakiaaaW.PrintLast Go.Proofs.YtocimkpafakiaaaW.PrintMore
set_option linter.unusedVariables false
set_option linter.unusedSimpArgs false

/-- A place of a right body. -/
def PlaceGood (l : List S63) (a : Int) : Prop := BodyGood l 3 ∧ 0 ≤ a ∧ a < (l.length : Int)
theorem placeIn_ev (l : List S63) (a : Int) (hl : l.length ≤ 1048576) : ∃ b, Ev (fun k => impl_placeIn.f k l a) b ∧ (b = true ↔ PlaceGood l a) := by
  obtain ⟨b, h1, h2, h3⟩ := body_both l 3 hl
  have hw : wrap64 ((l.length : Int) - 1) = (l.length : Int) - 1 := w64 (by omega) (by omega)
  unfold impl_placeIn.f
  simp only [within_eq, hw]
  cases b with
  | false => exact ⟨false, Ev.bind h2 (ev_neg (by decide) (ev_some rfl)), by simp, fun h => absurd (h3.2 h.1) (by decide)⟩
  | true =>
    refine ⟨decide (0 ≤ a ∧ a ≤ (l.length : Int) - 1), Ev.bind h2 (ev_pos rfl (ev_bind0 rfl (ev_some rfl))), ?_⟩
    rw [decide_eq_true_iff]
    exact ⟨fun h => ⟨h3.1 rfl, h.1, by omega⟩, fun h => ⟨h.2.1, by have := h.2.2; omega⟩⟩
/-- The reference's guard: a body and a place. -/
theorem guard_ev {α : Type} (l : List S63) (a : Int) (hl : l.length ≤ 1048576) (j : Nat → Bool → Option α) (r : α) (hp : PlaceGood l a → Ev (fun k => j k false) r) (hn : ¬ PlaceGood l a → Ev (fun k => j k true) r) :
    Ev (fun k => (spec_BodyOk.f k l 3).bind fun t => (if t = true then ((spec_l1In.f a 0 (wrap64 ((l.length : Int) - 1))).bind fun t2 => (j k (!t2))) else (j k true))) r := by
  obtain ⟨b, h1, h2, h3⟩ := body_both l 3 hl
  have hw : wrap64 ((l.length : Int) - 1) = (l.length : Int) - 1 := w64 (by omega) (by omega)
  simp only [in_eq, hw]
  cases b with
  | false => exact Ev.bind h1 (ev_neg (by decide) (hn (fun h => absurd (h3.2 h.1) (by decide))))
  | true =>
    refine Ev.bind h1 (ev_pos rfl (ev_bind0 rfl ?_))
    by_cases c : 0 ≤ a ∧ a ≤ (l.length : Int) - 1
    · rw [decide_eq_true c]
      exact hp ⟨h3.1 rfl, c.1, by omega⟩
    · rw [decide_eq_false c]
      exact hn (fun h => c ⟨h.2.1, by have := h.2.2; omega⟩)
theorem nextOf_both (l : List S63) (a : Int) (hl : l.length ≤ 1048576) : ∃ q : List Int, q.length ≤ 2 ∧ Ev (fun k => spec_NextOf.f k l a) q ∧ Ev (fun k => impl_NextOf.f k l a) q ∧ (PlaceGood l a → q = nx l a) := by
  obtain ⟨b, h1, h2⟩ := placeIn_ev l a hl
  unfold impl_NextOf.f
  by_cases g : PlaceGood l a
  · obtain rfl := h2.2 g
    exact ⟨nx l a, nx_len l a, spec_nx l a g.1 g.2, Ev.bind h1 (ev_pos rfl (ev_bind0 (impl_nx l a g.2) (ev_some rfl))), fun _ => rfl⟩
  · have hb : b = false := Bool.eq_false_iff.mpr (fun h => g (h2.1 h))
    subst hb
    refine ⟨[], by simp, ?_, Ev.bind h1 (ev_neg (by decide) (ev_some rfl)), fun h => absurd h g⟩
    unfold spec_NextOf.f
    refine guard_ev l a hl (fun k t => spec_NextOf.j0 k l a t) [] (fun h => absurd h g) (fun _ => Ev.step (f := fun _ => some []) (fun k => ?_) (ev_some rfl))
    rw [spec_NextOf.j0, if_pos rfl]
theorem reachOf_both (l : List S63) (a : Int) (hl : l.length ≤ 1048576) : ∃ q : List Int, q.length ≤ 1048576 ∧ Ev (fun k => spec_ReachOf.f k l a) q ∧ Ev (fun k => impl_ReachOf.f k l a) q ∧ (q = [] ∨ PlaceGood l a ∧ ∃ r : List Bool, r.length = l.length ∧ q = wh r true r.length ∧ Hit r a ∧ FlowShut l r ∧ Ev (fun k => impl_reached.f k l [a]) r) := by
  obtain ⟨b, h1, h2⟩ := placeIn_ev l a hl
  unfold impl_ReachOf.f spec_ReachOf.f
  by_cases g : PlaceGood l a
  · obtain rfl := h2.2 g
    obtain ⟨r, hr, m1, m2, m3, m4⟩ := reach_both2 l g.1 [a] (fun y hy => by simp at hy; subst hy; exact g.2) (by simp)
    obtain ⟨w1, w2⟩ := where_both r true (by omega)
    have hwl := wh_len r true r.length
    refine ⟨wh r true r.length, by omega, ?_, Ev.bind h1 (ev_pos rfl (Ev.bind m2 (Ev.bind w2 (ev_some rfl)))), .inr ⟨g, r, hr, rfl, m3 a (List.mem_singleton.2 rfl), m4, m2⟩⟩
    exact guard_ev l a hl (fun k t => spec_ReachOf.j0 k l a t) _ (fun _ => Ev.step (fun k => by rw [spec_ReachOf.j0]) (ev_neg (by decide) (Ev.bind m1 (Ev.bind w1 (ev_some rfl))))) (fun h => absurd g h)
  · have hb : b = false := Bool.eq_false_iff.mpr (fun h => g (h2.1 h))
    subst hb
    refine ⟨[], by simp, ?_, Ev.bind h1 (ev_neg (by decide) (ev_some rfl)), .inl rfl⟩
    refine guard_ev l a hl (fun k t => spec_ReachOf.j0 k l a t) [] (fun h => absurd h g) (fun _ => Ev.step (f := fun _ => some []) (fun k => ?_) (ev_some rfl))
    rw [spec_ReachOf.j0, if_pos rfl]
theorem unreached_both (l : List S63) (hl : l.length ≤ 1048576) : ∃ q : List Int, q.length ≤ 1048576 ∧ Ev (fun k => spec_Unreached.f k l) q ∧ Ev (fun k => impl_Unreached.f k l) q ∧ (BodyGood l 3 → ∃ r : List Bool, r.length = l.length ∧ q = wh r false r.length ∧ Ev (fun k => impl_reached.f k l [0]) r) := by
  obtain ⟨b, h1, h2, h3⟩ := body_both l 3 hl
  unfold impl_Unreached.f spec_Unreached.f
  cases b with
  | false => exact ⟨[], by simp, Ev.bind h1 (ev_neg (by decide) (ev_some rfl)), Ev.bind h2 (ev_neg (by decide) (ev_some rfl)), fun h => absurd (h3.2 h) (by decide)⟩
  | true =>
    have g := h3.1 rfl
    have hlen := g.2.1
    obtain ⟨r, hr, m1, m2, m3, m4⟩ := reach_both2 l g [0] (fun y hy => by simp at hy; subst hy; omega) (by simp)
    obtain ⟨w1, w2⟩ := where_both r false (by omega)
    have hwl := wh_len r false r.length
    exact ⟨wh r false r.length, by omega, Ev.bind h1 (ev_pos rfl (Ev.bind m1 (Ev.bind w1 (ev_some rfl)))), Ev.bind h2 (ev_pos rfl (Ev.bind m2 (Ev.bind w2 (ev_some rfl)))), fun _ => ⟨r, hr, rfl, m2⟩⟩
theorem loopsAt_both (l : List S63) (a : Int) (hl : l.length ≤ 1048576) : ∃ q : Bool, Ev (fun k => spec_LoopsAt.f k l a) q ∧ Ev (fun k => impl_LoopsAt.f k l a) q := by
  obtain ⟨b, h1, h2⟩ := placeIn_ev l a hl
  unfold impl_LoopsAt.f spec_LoopsAt.f
  by_cases g : PlaceGood l a
  · obtain rfl := h2.2 g
    have hn := nx_len l a
    have g2 := g.2
    obtain ⟨r, hr, m1, m2⟩ := reach_both l g.1 (nx l a) (nx_in l 3 a g.1 g.2) (by omega)
    refine ⟨rdOf false r a, ?_, Ev.bind h1 (ev_pos rfl (ev_bind0 (impl_nx l a g.2) (Ev.bind m2 (ev_pos g.2.1 (ev_pos (by omega) (ev_some rfl))))))⟩
    exact guard_ev l a hl (fun k t => spec_LoopsAt.j0 k l a t) _ (fun _ => Ev.step (fun k => by rw [spec_LoopsAt.j0]) (ev_neg (by decide) (Ev.bind (spec_nx l a g.1 g.2) (Ev.bind m1 (ev_pos g.2.1 (ev_pos (show a < (r.length : Int) by omega) (ev_some rfl))))))) (fun h => absurd g h)
  · have hb : b = false := Bool.eq_false_iff.mpr (fun h => g (h2.1 h))
    subst hb
    refine ⟨false, ?_, Ev.bind h1 (ev_neg (by decide) (ev_some rfl))⟩
    refine guard_ev l a hl (fun k t => spec_LoopsAt.j0 k l a t) false (fun h => absurd h g) (fun _ => Ev.step (f := fun _ => some false) (fun k => ?_) (ev_some rfl))
    rw [spec_LoopsAt.j0, if_pos rfl]
end Go.Proofs.Ytocimkpafakiaaa.CoreReachFnFlows
