/- Where a drawn body may go is told as the chapter says, for all bytes; what is come to leads nowhere else; what is not come to is all else. -/
import Derived.Test.YtocimkpafakiaaaXFnFlowsx14
import Derived.Test.YtocimkpafakiaaaHlpFnFlows
import Derived.Test.YtocimkpafakiaaaCoreReachFnFlows
import Derived.Test.YtocimkpafakiaaaCoreDraw18FnFlows
namespace Go.Proofs.Ytocimkpafakiaaa.Pure
open Go.RowKit Go.Proofs.Ytocimkpafakiaaa.XFnFlows Go.Proofs.Ytocimkpafakiaaa.Lib Go.Proofs.Ytocimkpafakiaaa.HlpFnFlows Go.Proofs.Ytocimkpafakiaaa.CoreInsFnFlows Go.Proofs.Ytocimkpafakiaaa.CoreBodyFnFlows Go.Proofs.Ytocimkpafakiaaa.CoreFlowFnFlows Go.Proofs.Ytocimkpafakiaaa.CoreWhereFnFlows Go.Proofs.Ytocimkpafakiaaa.CoreReachFnFlows Go.Proofs.Ytocimkpafakiaaa.CoreDrawFnFlows Go.Proofs.Ytocimkpafakiaaa.CoreBodiesFnFlows Go.Proofs.Ytocimkpafakiaaa.CoreDraw18FnFlows Go.Proofs.YtocimkpafakiaaaW.PrintWords Go.Proofs.YtocimkpafakiaaaW.PrintLast Go.Proofs.YtocimkpafakiaaaW.PrintMore
open Go.Proofs.Ytocimkpafakiaaa
set_option linter.unusedVariables false
set_option linter.unusedSimpArgs false

theorem sameInts_l (q : List Int) (hq : q.length ≤ 1048576) : ∀ (n i : Nat), i + n = q.length → Ev (fun k => laws_sameInts.l0 k q q i) true := by
  intro n
  induction n with
  | zero =>
    intro i hi
    refine Ev.step (f := fun _ => some true) (fun k => ?_) (ev_some rfl)
    rw [laws_sameInts.l0, if_neg (by omega)]
  | succ n ih =>
    intro i hi
    refine Ev.step (fun k => ?_) (ih (i + 1) (by omega))
    rw [laws_sameInts.l0, if_pos (by omega), if_pos (by omega), if_pos (by omega), if_pos rfl, w64_nat (by omega)]
theorem sameInts_ev (q : List Int) (hq : q.length ≤ 1048576) : Ev (fun k => laws_sameInts.f k q q) true := by
  unfold laws_sameInts.f
  exact ev_pos rfl (sameInts_l q hq q.length 0 (by omega))
theorem within_l (q : List Int) (y : Int) (hq : q.length ≤ 1048576) : ∀ (n i j : Nat), i + n = q.length → i ≤ j → j < q.length → q.getD j 0 = y → Ev (fun k => laws_within.l0 k q y i) true := by
  intro n
  induction n with
  | zero =>
    intro i j hi hj hl h
    omega
  | succ n ih =>
    intro i j hi hj hl h
    by_cases c : q.getD i 0 = y
    · refine Ev.step (f := fun _ => some true) (fun k => ?_) (ev_some rfl)
      rw [laws_within.l0, if_pos (by omega), if_pos (by omega), rd_nat, if_pos c]
    · refine Ev.step (fun k => ?_) (ih (i + 1) j (by omega) (by
        by_cases e : i = j
        · exact absurd (e ▸ h) c
        · omega) hl h)
      rw [laws_within.l0, if_pos (by omega), if_pos (by omega), rd_nat, if_neg c, w64_nat (by omega)]
theorem within_ev (q : List Int) (y : Int) (hq : q.length ≤ 1048576) (h : y ∈ q) : Ev (fun k => laws_within.f k q y) true := by
  obtain ⟨j, hj, e⟩ := List.getElem_of_mem h
  unfold laws_within.f
  refine within_l q y hq q.length 0 j (by omega) (Nat.zero_le _) hj ?_
  rw [List.getD_eq_getElem?_getD, List.getElem?_eq_getElem hj]
  exact e
/-- What the law asks at its end. -/
def tail_ (k : Nat) (x4 : Int) (x5 : List Int) (x10 : List S63) (x11 : List Int) : Option Bool := (impl_BodyOk.f k x10 3).bind fun t538 => (if t538 = true then ((impl_ReachOf.f k x10 0).bind fun t539 => (if (wrap64 ((x11.length : Int) + (t539.length : Int))) = (x10.length : Int) then (if (x5.length : Int) = 0 then (some true) else ((laws_within.f k x5 x4).bind fun t542 => (some t542))) else (some false))) else (if (x5.length : Int) = 0 then (some true) else ((laws_within.f k x5 x4).bind fun t543 => (some t543))))
theorem tail_ev (x4 : Int) (q : List Int) (hq : q.length ≤ 1048576) (hk : q = [] ∨ x4 ∈ q) (u : List S63) (hu : u.length ≤ 1048576) (n : List Int) (hn : BodyGood u 3 → ∃ r : List Bool, r.length = u.length ∧ n = wh r false r.length ∧ Ev (fun k => impl_reached.f k u [0]) r) : Ev (fun k => tail_ k x4 q u n) true := by
  have last : Ev (fun k => (if (q.length : Int) = 0 then (some true) else ((laws_within.f k q x4).bind fun t542 => (some t542)))) true := by
    refine ev_ite (fun _ => ev_some rfl) (fun c => ?_)
    rcases hk with h | h
    · subst h
      exact absurd rfl c
    · exact Ev.bind (within_ev q x4 hq h) (ev_some rfl)
  obtain ⟨b, h1, h2, h3⟩ := body_both u 3 hu
  unfold tail_
  cases b with
  | false => exact Ev.bind h2 (ev_neg (by decide) last)
  | true =>
    have g := h3.1 rfl
    have hlen := g.2.1
    obtain ⟨r, hr, e, hm⟩ := hn g
    obtain ⟨p, hp, _, p2, p3⟩ := reachOf_both u 0 hu
    have hpg : PlaceGood u 0 := ⟨g, by omega, by omega⟩
    have pe : p = wh r true r.length := by
      obtain ⟨b2, c1, c2⟩ := placeIn_ev u 0 hu
      obtain rfl := c2.2 hpg
      refine ev_fun p2 ?_
      unfold impl_ReachOf.f
      exact Ev.bind c1 (ev_pos rfl (Ev.bind hm (Ev.bind (where_both r true (by omega)).2 (ev_some rfl))))
    refine Ev.bind h2 (ev_pos rfl (Ev.bind p2 (ev_pos ?_ last)))
    have hc := wh_count r r.length
    rw [e, pe, w64 (by omega) (by omega)]
    omega
theorem next_l (x3 : List S63) (x4 : Int) (q : List Int) (hq : q.length ≤ 1048576) (u : List S63) (n next : List Int) (i : Int) (hnl : next.length ≤ 2) (hin : ∀ y ∈ next, y ∈ q) (hrest : Ev (fun k => laws_FnFlows.l0 k x3 x4 q u n (wrap64 (i + 1))) true) : ∀ (m j : Nat), j + m = next.length → Ev (fun k => laws_FnFlows.l1 k x3 x4 q u n i next j) true := by
  intro m
  induction m with
  | zero =>
    intro j hj
    refine Ev.step (fun k => ?_) hrest
    rw [laws_FnFlows.l1, if_neg (by omega)]
  | succ m ih =>
    intro j hj
    have hj' : j < next.length := by omega
    have hm : next.getD j 0 ∈ next := by
      rw [List.getD_eq_getElem?_getD, List.getElem?_eq_getElem hj']
      exact List.getElem_mem _
    refine Ev.step (fun k => by rw [laws_FnFlows.l1]) ?_
    rw [rd_nat, w64_nat (by omega)]
    exact ev_pos (by omega) (ev_pos (by omega) (Ev.bind (within_ev q _ hq (hin _ hm)) (ev_pos rfl (ih (j + 1) (by omega)))))
theorem reach_l (x3 : List S63) (h3 : x3.length ≤ 1048576) (x4 : Int) (q : List Int) (hq : q.length ≤ 1048576) (hin : ∀ a ∈ q, PlaceGood x3 a ∧ ∀ y ∈ nx x3 a, y ∈ q) (u : List S63) (n : List Int) (ht : Ev (fun k => tail_ k x4 q u n) true) : ∀ (m i : Nat), i + m = q.length → Ev (fun k => laws_FnFlows.l0 k x3 x4 q u n i) true := by
  intro m
  induction m with
  | zero =>
    intro i hi
    refine Ev.step (fun k => ?_) ht
    rw [laws_FnFlows.l0, if_neg (by omega)]
    rfl
  | succ m ih =>
    intro i hi
    have hi' : i < q.length := by omega
    have hm : q.getD i 0 ∈ q := by
      rw [List.getD_eq_getElem?_getD, List.getElem?_eq_getElem hi']
      exact List.getElem_mem _
    obtain ⟨g, gy⟩ := hin _ hm
    obtain ⟨next, e1, _, e2, e3⟩ := nextOf_both x3 (q.getD i 0) h3
    have e3' := e3 g
    refine Ev.step (fun k => by rw [laws_FnFlows.l0]) ?_
    rw [rd_nat]
    refine ev_pos (by omega) (ev_pos (by omega) (Ev.bind e2 ?_))
    refine next_l x3 x4 q hq u n next i e1 (fun y hy => gy y (e3' ▸ hy)) ?_ next.length 0 (by omega)
    rw [w64_nat (by omega)]
    exact ih (i + 1) (by omega)
theorem FnFlows : laws_FnFlows.Pure := by
  intro b _ _ _
  refine Ev.rounds ?_
  unfold laws_FnFlows.f laws_big.f
  refine ev_bind0 rfl (ev_ite (fun _ => ev_some rfl) (fun cc => ?_))
  have hb : b.length ≤ 1048576 := by
    have := of_decide_eq_false (Bool.eq_false_iff.mpr cc)
    omega
  obtain ⟨⟨l, a⟩, e1, hl⟩ := at18_ok b hb
  replace hl : l.length ≤ 11 := hl
  obtain ⟨h', en, d⟩ := new_ok b hb
  obtain ⟨⟨u, iu, hu⟩, e2, hu1⟩ := body18_ok b 0 h' d
  replace hu1 : u.length ≤ 11 := hu1.1
  have d1 : Ev (fun k => spec_DrawReachOf.f k b) (l, a) := by
    unfold spec_DrawReachOf.f
    exact Ev.bind e1 (ev_some rfl)
  have d2 : Ev (fun k => spec_DrawNextOf.f k b) (l, a) := by
    unfold spec_DrawNextOf.f
    exact Ev.bind e1 (ev_some rfl)
  have d3 : Ev (fun k => spec_DrawLoopsAt.f k b) (l, a) := by
    unfold spec_DrawLoopsAt.f
    exact Ev.bind e1 (ev_some rfl)
  have d4 : Ev (fun k => spec_DrawUnreached.f k b) u := by
    unfold spec_DrawUnreached.f
    exact Ev.bind en (Ev.bind e2 (ev_some rfl))
  obtain ⟨q, hq, q1, q2, q3⟩ := reachOf_both l a (by omega)
  obtain ⟨n, hn, n1, n2, n3⟩ := nextOf_both l a (by omega)
  obtain ⟨o, o1, o2⟩ := loopsAt_both l a (by omega)
  obtain ⟨v, hv, v1, v2, v3⟩ := unreached_both u (by omega)
  refine Ev.bind d1 (Ev.bind q2 (Ev.bind d2 (Ev.bind d3 (Ev.bind d4 (Ev.bind v2 (Ev.bind q1 (Ev.bind (sameInts_ev q hq) (ev_pos rfl (Ev.bind n2 (Ev.bind n1 (Ev.bind (sameInts_ev n (by omega)) (ev_pos rfl (Ev.bind o2 (Ev.bind o1 (ev_neg (by simp) (Ev.bind v1 (Ev.bind (sameInts_ev v hv) ?_)))))))))))))))))
  refine Ev.step (fun k => by rw [laws_FnFlows.j0]) (ev_neg (by decide) ?_)
  have hk : q = [] ∨ a ∈ q := by
    rcases q3 with h | ⟨g, r, hr, e, hh, hs, _⟩
    · exact .inl h
    · refine .inr ?_
      rw [e, wh_mem]
      have g2 := g.2
      exact ⟨a.toNat, by omega, by omega, hh⟩
  refine reach_l l (by omega) a q hq (fun y hy => ?_) u v (tail_ev a q hq hk u (by omega) v v3) q.length 0 (by omega)
  rcases q3 with h | ⟨g, r, hr, e, hh, hs, _⟩
  · subst h
    cases hy
  · rw [e, wh_mem] at hy
    obtain ⟨j, rfl, j1, j2⟩ := hy
    have hpg : PlaceGood l (j : Int) := ⟨g.1, by omega, by omega⟩
    refine ⟨hpg, fun z hz => ?_⟩
    have hz1 := nx_in l 3 (j : Int) g.1 hpg.2 z hz
    have hz2 := hs (j : Int) (by omega) (by omega) (by unfold Hit; rw [Int.toNat_natCast]; exact j2) z hz
    rw [e, wh_mem]
    exact ⟨z.toNat, by omega, by omega, hz2⟩
end Go.Proofs.Ytocimkpafakiaaa.Pure
