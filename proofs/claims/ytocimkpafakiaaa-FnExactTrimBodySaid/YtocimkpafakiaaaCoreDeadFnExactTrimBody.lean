import Derived.Test.YtocimkpafakiaaaXFnExactTrimBodyx15
import Derived.Test.YtocimkpafakiaaaCoreLiveFnExactTrimBody
namespace Go.Proofs.Ytocimkpafakiaaa.CoreDeadFnExactTrimBody
open Go.RowKit Go.Proofs.Ytocimkpafakiaaa.XFnExactTrimBody Go.Proofs.Ytocimkpafakiaaa.Lib Go.Proofs.Ytocimkpafakiaaa.CoreInsFnExactTrimBody Go.Proofs.Ytocimkpafakiaaa.CoreBodyFnExactTrimBody Go.Proofs.Ytocimkpafakiaaa.CoreFlowFnExactTrimBody Go.Proofs.Ytocimkpafakiaaa.CoreLiveFnExactTrimBody Go.Proofs.YtocimkpafakiaaaW.PrintWords Go.Proofs.YtocimkpafakiaaaW.PrintLast Go.Proofs.YtocimkpafakiaaaW.PrintMore
set_option linter.unusedVariables false
set_option linter.unusedSimpArgs false
def dies (l : List S63) (q : List (List Int)) (r : List Bool) (i : Nat) : Bool := decide (1 ≤ (l.getD i z63).f0 ∧ (l.getD i z63).f0 ≤ 4) && (r.getD i false && !decide ((l.getD i z63).f1 ∈ q.getD (i + 1) []))
theorem three_eq (a : Int) : spec_l19Three.f a = some (decide (2 ≤ a ∧ a ≤ 4)) := by
  unfold spec_l19Three.f
  by_cases h2 : a = 2
  · subst h2; rfl
  rw [if_neg h2]
  by_cases h3 : a = 3
  · subst h3; rfl
  rw [if_neg h3]
  by_cases h4 : a = 4
  · subst h4; rfl
  · rw [show (a == 4) = false from beq_eq_false_iff_ne.mpr h4, decide_eq_false (by omega)]
def Keeps (l : List S63) (acc : List Int) (i : Nat) : Prop := acc.length ≤ i ∧ ∀ y ∈ acc, 0 ≤ y ∧ y < (l.length : Int)
theorem keeps_snoc (l : List S63) (acc : List Int) (i : Nat) (h : Keeps l acc i) (hi : i < l.length) : Keeps l (acc ++ [(i : Int)]) (i + 1) := by
  refine ⟨by rw [List.length_append]; simp; exact h.1, fun y hy => ?_⟩
  rw [List.mem_append, List.mem_singleton] at hy
  rcases hy with hy | hy
  · exact h.2 y hy
  · omega
theorem dead_l (l : List S63) (hl : l.length ≤ 1048576) (q : List (List Int)) (hq : q.length = l.length) (hq4 : ∀ y ∈ q, y.length ≤ 4) (r : List Bool) (hr : r.length = l.length) : ∀ (n i : Nat) (acc : List Int), i + n + 1 = l.length → Keeps l acc i → ∃ d : List Int, Keeps l d l.length ∧ Ev (fun k => spec_DeadAt.l0 k l acc q r i) d ∧ Ev (fun k => impl_DeadAt.l0 k l acc q r l (l.length : Int) i) d := by
  intro n
  induction n with
  | zero =>
    intro i acc hi hk
    refine ⟨acc, ⟨by have := hk.1; omega, hk.2⟩, Ev.step (f := fun _ => some acc) (fun k => ?_) (ev_some rfl), ?_⟩
    · rw [spec_DeadAt.l0, w64_nat (by omega), if_neg (by omega)]
    · have last : Ev (fun k => impl_DeadAt.l0 k l acc q r l (l.length : Int) ((i + 1 : Nat) : Int)) acc := Ev.step (f := fun _ => some acc) (fun k => by rw [impl_DeadAt.l0, if_neg (by omega)]) (ev_some rfl)
      refine Ev.step (fun k => by rw [impl_DeadAt.l0, if_pos (by omega), if_pos (by omega), if_pos (by omega), within_eq, w64_nat (by omega)]) ?_
      refine ev_bind0 rfl (ev_ite (fun _ => ev_pos (by omega) (ev_ite (fun _ => ev_neg (by omega) last) (fun _ => last))) (fun _ => last))
  | succ n ih =>
    intro i acc hi hk
    have e1 : q.getD (i + 1) [] ∈ q := by
      rw [List.getD_eq_getElem?_getD, List.getElem?_eq_getElem (by omega)]
      exact List.getElem_mem (by omega)
    have h4 := hq4 _ e1
    have hin : decide ((l.getD i z63).f1 ∈ q.getD (i + 1) []) = decide ((l.getD i z63).f1 ∈ q.getD (i + 1) []) := rfl
    have hrd : rdOf false r (i : Int) = r.getD i false := by unfold rdOf; rw [Int.toNat_natCast]
    have hk1 : Keeps l acc (i + 1) := ⟨by have := hk.1; omega, hk.2⟩
    have hka := hk.1
    by_cases c : dies l q r i = true
    · obtain ⟨d, d1, d2, d3⟩ := ih (i + 1) (acc ++ [(i : Int)]) (by omega) (keeps_snoc l acc i hk (by omega))
      unfold dies at c
      rw [Bool.and_eq_true, Bool.and_eq_true] at c
      obtain ⟨c1, c2, c3⟩ := c
      have c1' := of_decide_eq_true c1
      have c3' : ¬ (l.getD i z63).f1 ∈ q.getD (i + 1) [] := by
        intro hm
        rw [decide_eq_true hm] at c3
        cases c3
      refine ⟨d, d1, Ev.step (fun k => by rw [spec_DeadAt.l0, w64_nat (by omega), if_pos (by omega), if_pos (by omega), if_pos (by omega), if_pos (by omega), hrd, if_pos c2, rdIns_nat, rdI_nat]) ?_, Ev.step (fun k => by rw [impl_DeadAt.l0, if_pos (by omega), if_pos (by omega), if_pos (by omega), within_eq, w64_nat (by omega), rdIns_nat, rdI_nat, hrd]) ?_⟩
      · refine ev_ite (fun _ => ev_pos (by omega) (ev_pos (by omega) ?_)) (fun h1 => ?_)
        · exact Ev.bind (in_ev _ _ (by omega)) (ev_neg (by rw [decide_eq_false c3']; decide) (ev_pos (by omega) d2))
        · refine ev_bind0 (three_eq _) (ev_pos (decide_eq_true (by omega)) (ev_pos (by omega) (ev_pos (by omega) ?_)))
          exact Ev.bind (in_ev _ _ (by omega)) (ev_neg (by rw [decide_eq_false c3']; decide) (ev_pos (by omega) d2))
      · refine ev_bind0 rfl (ev_pos c1 (ev_pos (by omega) (ev_pos c2 (ev_pos (by omega) (ev_pos (by omega) (ev_pos (by omega) ?_))))))
        exact Ev.bind (contains_ev _ _ (by omega)) (ev_neg (by rw [decide_eq_false c3']; decide) (ev_pos (by omega) d3))
    · obtain ⟨d, d1, d2, d3⟩ := ih (i + 1) acc (by omega) hk1
      refine ⟨d, d1, Ev.step (fun k => by rw [spec_DeadAt.l0, w64_nat (by omega), if_pos (by omega), if_pos (by omega), if_pos (by omega), if_pos (by omega), hrd, rdIns_nat, rdI_nat]) ?_, Ev.step (fun k => by rw [impl_DeadAt.l0, if_pos (by omega), if_pos (by omega), if_pos (by omega), within_eq, w64_nat (by omega), rdIns_nat, rdI_nat, hrd]) ?_⟩
      · refine ev_ite (fun c2 => ?_) (fun _ => d2)
        have hm : (1 ≤ (l.getD i z63).f0 ∧ (l.getD i z63).f0 ≤ 4) → (l.getD i z63).f1 ∈ q.getD (i + 1) [] := by
          intro h1
          refine Classical.byContradiction fun h => c ?_
          unfold dies
          rw [decide_eq_true h1, c2, decide_eq_false h]
          rfl
        refine ev_ite (fun h1 => ev_pos (by omega) (ev_pos (by omega) ?_)) (fun h1 => ?_)
        · exact Ev.bind (in_ev _ _ (by omega)) (ev_pos (decide_eq_true (hm (by omega))) d2)
        · refine ev_bind0 (three_eq _) (ev_ite (fun h2 => ?_) (fun _ => d2))
          have h2' := of_decide_eq_true h2
          refine ev_pos (by omega) (ev_pos (by omega) ?_)
          exact Ev.bind (in_ev _ _ (by omega)) (ev_pos (decide_eq_true (hm (by omega))) d2)
      · refine ev_bind0 rfl (ev_ite (fun c1 => ev_pos (by omega) (ev_ite (fun c2 => ev_pos (by omega) (ev_pos (by omega) (ev_pos (by omega) ?_))) (fun _ => d3))) (fun _ => d3))
        have hm : (l.getD i z63).f1 ∈ q.getD (i + 1) [] := by
          refine Classical.byContradiction fun h => c ?_
          unfold dies
          rw [c1, c2, decide_eq_false h]
          rfl
        exact Ev.bind (contains_ev _ _ (by omega)) (ev_pos (decide_eq_true hm) d3)
theorem dead_both (l : List S63) (hl : l.length ≤ 1048576) : ∃ d : List Int, Keeps l d l.length ∧ Ev (fun k => spec_DeadAt.f k l) d ∧ Ev (fun k => impl_DeadAt.f k l) d := by
  obtain ⟨q, q1, q2, q3, q4⟩ := live_both l hl
  obtain ⟨b, h1, h2, h3⟩ := body_both l 3 hl
  rcases q4 with ⟨hg, hq⟩ | ⟨hn, rfl⟩
  · obtain rfl := h3.2 hg
    have hlen := hg.2.1
    obtain ⟨r, r1, r2, r3⟩ := reach_both l hg [0] (fun y hy => by rw [List.mem_singleton] at hy; omega) (by simp)
    obtain ⟨d, d1, d2, d3⟩ := dead_l l hl q hq q3 r r1 (l.length - 1) 0 [] (by omega) ⟨Nat.le_refl _, fun y hy => by cases hy⟩
    refine ⟨d, d1, ?_, ?_⟩
    · unfold spec_DeadAt.f
      exact ev_bind0 rfl (Ev.bind q1 (ev_neg (by omega) (Ev.bind r2 d2)))
    · unfold impl_DeadAt.f
      exact ev_bind0 rfl (Ev.bind h2 (ev_pos rfl (Ev.bind q2 (Ev.bind r3 d3))))
  · have hb : b = false := by
      cases b with
      | false => rfl
      | true => exact absurd (h3.1 rfl) hn
    subst hb
    refine ⟨[], ⟨by simp, fun y hy => by cases hy⟩, ?_, ?_⟩
    · unfold spec_DeadAt.f
      exact ev_bind0 rfl (Ev.bind q1 (ev_pos rfl (ev_some rfl)))
    · unfold impl_DeadAt.f
      exact ev_bind0 rfl (Ev.bind h2 (ev_neg (by decide) (ev_some rfl)))
end Go.Proofs.Ytocimkpafakiaaa.CoreDeadFnExactTrimBody
