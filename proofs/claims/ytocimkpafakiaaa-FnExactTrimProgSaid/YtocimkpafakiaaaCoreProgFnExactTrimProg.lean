/- What a right program is: the program's and the reference's tests answer alike, for all rooms and bodies. -/
import Derived.Test.YtocimkpafakiaaaWalkFnExactTrimProg
import Derived.Test.YtocimkpafakiaaaLib
import Derived.Test.YtocimkpafakiaaaCoreFlowFnExactTrimProg
namespace Go.Proofs.Ytocimkpafakiaaa.CoreProgFnExactTrimProg
open Go.RowKit Go.Proofs.Ytocimkpafakiaaa.XFnExactTrimProg Go.Proofs.Ytocimkpafakiaaa.Lib Go.Proofs.Ytocimkpafakiaaa.CoreInsFnExactTrimProg Go.Proofs.Ytocimkpafakiaaa.CoreBodyFnExactTrimProg Go.Proofs.YtocimkpafakiaaaW.PrintWords Go.Proofs.YtocimkpafakiaaaW.PrintLast Go.Proofs.YtocimkpafakiaaaW.PrintMore
set_option linter.unusedVariables false
set_option linter.unusedSimpArgs false

theorem rdBody_nat (xs : List (List S63)) (i : Nat) : rd_L4 xs (i : Int) = xs.getD i [] := by unfold rd_L4; rw [Int.toNat_natCast]
theorem L_mem {α : Type} (x : List α) (z : α) (i : Nat) (h : i < x.length) : x.getD i z ∈ x := by
  rw [List.getD_eq_getElem?_getD, List.getElem?_eq_getElem h]
  exact List.getElem_mem _
def CapsGood (c : List Int) : Prop := ∀ i, i < c.length → 1 ≤ c.getD i 0 ∧ c.getD i 0 ≤ 4
def ProgGood (c : List Int) (b : List (List S63)) : Prop := c.length ≤ 3 ∧ CapsGood c ∧ (∀ i, i < b.length → BodyGood (b.getD i []) (c.length : Int)) ∧ 1 ≤ b.length ∧ b.length ≤ 4
theorem caps_l (c : List Int) (h2 : c.length ≤ 1048576) : ∀ (n i : Nat), i + n = c.length → (∀ j, j < i → 1 ≤ c.getD j 0 ∧ c.getD j 0 ≤ 4) → ∃ r, Ev (fun k => impl_capsOk.l0 k c (c.length : Int) i) r ∧ (r = true ↔ CapsGood c) := by
  intro n
  induction n with
  | zero =>
    intro i hi hj
    refine ⟨true, Ev.step (f := fun _ => some true) (fun k => ?_) (ev_some rfl), ?_⟩
    · rw [impl_capsOk.l0, if_neg (by omega)]
    · simp only [true_iff]
      exact fun j hjl => hj j (by omega)
  | succ n ih =>
    intro i hi hj
    by_cases g : 1 ≤ c.getD i 0 ∧ c.getD i 0 ≤ 4
    · obtain ⟨r, h, hr⟩ := ih (i + 1) (by omega) (fun j hjl => by
        by_cases e : j = i
        · subst e
          exact g
        · exact hj j (by omega))
      refine ⟨r, Ev.step (fun k => ?_) h, hr⟩
      rw [impl_capsOk.l0, if_pos (by omega), if_pos (by omega), if_pos (by omega), rd_nat, within_eq, decide_eq_true g, w64_nat (by omega)]
      rfl
    · refine ⟨false, Ev.step (f := fun _ => some false) (fun k => ?_) (ev_some rfl), ?_⟩
      · rw [impl_capsOk.l0, if_pos (by omega), if_pos (by omega), if_pos (by omega), rd_nat, within_eq, decide_eq_false g]
        rfl
      · simp only [Bool.false_eq_true, false_iff]
        exact fun h => g (h i (by omega))
theorem caps_ok (c : List Int) (h2 : c.length ≤ 1048576) : ∃ r, Ev (fun k => impl_capsOk.f k c) r ∧ (r = true ↔ CapsGood c) := caps_l c h2 c.length 0 (by omega) (fun j hj => by omega)
theorem impl_prog_l (c : List Int) (b : List (List S63)) (hc : c.length ≤ 1048576) (hb : b.length ≤ 1048576) (he : ∀ y ∈ b, y.length ≤ 1048576) : ∀ (n i : Nat), i + n = b.length → (∀ j, j < i → BodyGood (b.getD j []) (c.length : Int)) → ∃ r, Ev (fun k => impl_ProgOk.l0 k b (b.length : Int) i c b) r ∧ (r = true ↔ ProgGood c b) := by
  intro n
  induction n with
  | zero =>
    intro i hi hj
    obtain ⟨r, h, hr⟩ := caps_ok c hc
    by_cases c3 : (c.length : Int) ≤ 3
    · cases r with
      | false =>
        refine ⟨false, Ev.step (fun k => by rw [impl_ProgOk.l0]) ?_, ?_⟩
        · exact ev_neg (by omega) (ev_pos c3 (Ev.bind h (ev_neg (by decide) (ev_some rfl))))
        · simp only [Bool.false_eq_true, false_iff]
          exact fun g => by simpa using hr.2 g.2.1
      | true =>
        refine ⟨decide (1 ≤ (b.length : Int) ∧ (b.length : Int) ≤ 4), Ev.step (fun k => by rw [impl_ProgOk.l0]) ?_, ?_⟩
        · refine ev_neg (by omega) (ev_pos c3 (Ev.bind h (ev_pos rfl ?_)))
          rw [within_eq]
          exact ev_some rfl
        · rw [decide_eq_true_iff]
          exact ⟨fun g => ⟨by omega, hr.1 rfl, fun j hjl => hj j (by omega), by omega, by omega⟩, fun g => ⟨by have := g.2.2.2.1; omega, by have := g.2.2.2.2; omega⟩⟩
    · refine ⟨false, Ev.step (fun k => by rw [impl_ProgOk.l0]) (ev_neg (by omega) (ev_neg c3 (ev_some rfl))), ?_⟩
      simp only [Bool.false_eq_true, false_iff]
      exact fun g => c3 (by have := g.1; omega)
  | succ n ih =>
    intro i hi hj
    obtain ⟨r0, h0, hr0⟩ := impl_body (b.getD i []) (c.length : Int) (he _ (L_mem b [] i (by omega)))
    cases r0 with
    | true =>
      obtain ⟨r, h, hr⟩ := ih (i + 1) (by omega) (fun j hjl => by
        by_cases e : j = i
        · subst e
          exact hr0.1 rfl
        · exact hj j (by omega))
      refine ⟨r, Ev.step (fun k => by rw [impl_ProgOk.l0]) ?_, hr⟩
      rw [rdBody_nat]
      refine ev_pos (by omega) (ev_pos (by omega) (ev_pos (by omega) (Ev.bind h0 (ev_pos rfl ?_))))
      rw [w64_nat (by omega)]
      exact h
    | false =>
      refine ⟨false, Ev.step (fun k => by rw [impl_ProgOk.l0]) ?_, ?_⟩
      · rw [rdBody_nat]
        exact ev_pos (by omega) (ev_pos (by omega) (ev_pos (by omega) (Ev.bind h0 (ev_neg (by decide) (ev_some rfl)))))
      · simp only [Bool.false_eq_true, false_iff]
        exact fun g => by simpa using hr0.2 (g.2.2.1 i (by omega))
theorem impl_prog (c : List Int) (b : List (List S63)) (hc : c.length ≤ 1048576) (hb : b.length ≤ 1048576) (he : ∀ y ∈ b, y.length ≤ 1048576) : ∃ r, Ev (fun k => impl_ProgOk.f k c b) r ∧ (r = true ↔ ProgGood c b) :=
  impl_prog_l c b hc hb he b.length 0 (by omega) (fun j hj => by omega)
theorem spec_prog_l1 (c : List Int) (b : List (List S63)) (hg : CapsGood c) (hc : c.length ≤ 1048576) (hb : b.length ≤ 1048576) (he : ∀ y ∈ b, y.length ≤ 1048576) : ∀ (n i : Nat), i + n = b.length → (∀ j, j < i → BodyGood (b.getD j []) (c.length : Int)) → ∃ r, Ev (fun k => spec_ProgOk.l1 k i c b) r ∧ (r = true ↔ ProgGood c b) := by
  intro n
  induction n with
  | zero =>
    intro i hi hj
    by_cases c3 : (c.length : Int) ≤ 3
    · refine ⟨decide (1 ≤ (b.length : Int) ∧ (b.length : Int) ≤ 4), Ev.step (fun k => by rw [spec_ProgOk.l1]) ?_, ?_⟩
      · refine ev_neg (by omega) (ev_pos c3 ?_)
        rw [in_eq]
        exact ev_some rfl
      · rw [decide_eq_true_iff]
        exact ⟨fun g => ⟨by omega, hg, fun j hjl => hj j (by omega), by omega, by omega⟩, fun g => ⟨by have := g.2.2.2.1; omega, by have := g.2.2.2.2; omega⟩⟩
    · refine ⟨false, Ev.step (fun k => by rw [spec_ProgOk.l1]) (ev_neg (by omega) (ev_neg c3 (ev_some rfl))), ?_⟩
      simp only [Bool.false_eq_true, false_iff]
      exact fun g => c3 (by have := g.1; omega)
  | succ n ih =>
    intro i hi hj
    obtain ⟨r0, h0, hr0⟩ := spec_body (b.getD i []) (c.length : Int) (he _ (L_mem b [] i (by omega)))
    cases r0 with
    | true =>
      obtain ⟨r, h, hr⟩ := ih (i + 1) (by omega) (fun j hjl => by
        by_cases e : j = i
        · subst e
          exact hr0.1 rfl
        · exact hj j (by omega))
      refine ⟨r, Ev.step (fun k => by rw [spec_ProgOk.l1]) ?_, hr⟩
      rw [rdBody_nat]
      refine ev_pos (by omega) (ev_pos (by omega) (Ev.bind h0 (ev_pos rfl ?_)))
      rw [w64_nat (by omega)]
      exact h
    | false =>
      refine ⟨false, Ev.step (fun k => by rw [spec_ProgOk.l1]) ?_, ?_⟩
      · rw [rdBody_nat]
        exact ev_pos (by omega) (ev_pos (by omega) (Ev.bind h0 (ev_neg (by decide) (ev_some rfl))))
      · simp only [Bool.false_eq_true, false_iff]
        exact fun g => by simpa using hr0.2 (g.2.2.1 i (by omega))
theorem spec_prog_l0 (c : List Int) (b : List (List S63)) (hc : c.length ≤ 1048576) (hb : b.length ≤ 1048576) (he : ∀ y ∈ b, y.length ≤ 1048576) : ∀ (n i : Nat), i + n = c.length → (∀ j, j < i → 1 ≤ c.getD j 0 ∧ c.getD j 0 ≤ 4) → ∃ r, Ev (fun k => spec_ProgOk.l0 k i c b) r ∧ (r = true ↔ ProgGood c b) := by
  intro n
  induction n with
  | zero =>
    intro i hi hj
    obtain ⟨r, h, hr⟩ := spec_prog_l1 c b (fun j hjl => hj j (by omega)) hc hb he b.length 0 (by omega) (fun j hj => by omega)
    refine ⟨r, Ev.step (fun k => ?_) h, hr⟩
    rw [spec_ProgOk.l0, if_neg (by omega)]
    rfl
  | succ n ih =>
    intro i hi hj
    by_cases g : 1 ≤ c.getD i 0 ∧ c.getD i 0 ≤ 4
    · obtain ⟨r, h, hr⟩ := ih (i + 1) (by omega) (fun j hjl => by
        by_cases e : j = i
        · subst e
          exact g
        · exact hj j (by omega))
      refine ⟨r, Ev.step (fun k => ?_) h, hr⟩
      rw [spec_ProgOk.l0, if_pos (by omega), if_pos (by omega), rd_nat, in_eq, decide_eq_true g, w64_nat (by omega)]
      rfl
    · refine ⟨false, Ev.step (f := fun _ => some false) (fun k => ?_) (ev_some rfl), ?_⟩
      · rw [spec_ProgOk.l0, if_pos (by omega), if_pos (by omega), rd_nat, in_eq, decide_eq_false g]
        rfl
      · simp only [Bool.false_eq_true, false_iff]
        exact fun h => g (h.2.1 i (by omega))
theorem spec_prog (c : List Int) (b : List (List S63)) (hc : c.length ≤ 1048576) (hb : b.length ≤ 1048576) (he : ∀ y ∈ b, y.length ≤ 1048576) : ∃ r, Ev (fun k => spec_ProgOk.f k c b) r ∧ (r = true ↔ ProgGood c b) :=
  spec_prog_l0 c b hc hb he c.length 0 (by omega) (fun j hj => by omega)
theorem prog_both (c : List Int) (b : List (List S63)) (hc : c.length ≤ 1048576) (hb : b.length ≤ 1048576) (he : ∀ y ∈ b, y.length ≤ 1048576) : ∃ r, Ev (fun k => spec_ProgOk.f k c b) r ∧ Ev (fun k => impl_ProgOk.f k c b) r ∧ (r = true ↔ ProgGood c b) := by
  obtain ⟨r, h, g⟩ := spec_prog c b hc hb he
  obtain ⟨r', h', g'⟩ := impl_prog c b hc hb he
  have e : r = r' := by rw [Bool.eq_iff_iff, g, g']
  subst e
  exact ⟨r, h, h', g⟩
end Go.Proofs.Ytocimkpafakiaaa.CoreProgFnExactTrimProg
