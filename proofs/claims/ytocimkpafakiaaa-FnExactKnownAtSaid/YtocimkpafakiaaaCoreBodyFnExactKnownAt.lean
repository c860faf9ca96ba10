/- What a right body is: the program's and the reference's tests answer alike, for all rows of places. -/
import Derived.Test.YtocimkpafakiaaaWalkFnExactKnownAt
import Derived.Test.YtocimkpafakiaaaLib
import Derived.Test.YtocimkpafakiaaaCoreInsFnExactKnownAt
namespace Go.Proofs.Ytocimkpafakiaaa.CoreBodyFnExactKnownAt
open Go.RowKit Go.Proofs.Ytocimkpafakiaaa.XFnExactKnownAt Go.Proofs.Ytocimkpafakiaaa.Lib Go.Proofs.Ytocimkpafakiaaa.CoreInsFnExactKnownAt Go.Proofs.YtocimkpafakiaaaW.PrintWords Go.Proofs.YtocimkpafakiaaaW.PrintLast Go.Proofs.YtocimkpafakiaaaW.PrintMore
set_option linter.unusedVariables false
set_option linter.unusedSimpArgs false

theorem rdIns_nat (xs : List S63) (i : Nat) : rd_T63 xs (i : Int) = xs.getD i z63 := by unfold rd_T63; rw [Int.toNat_natCast]
/-- A right place of a row. -/
def AtGood (l : List S63) (chans : Int) (i : Nat) : Prop := InsGood (l.getD i z63).f0 (l.getD i z63).f1 (l.getD i z63).f2 (l.getD i z63).f3 (l.getD i z63).f4 (l.length : Int) chans
def LastGood (l : List S63) : Prop := (l.getD (l.length - 1) z63).f0 = 13 ∨ (l.getD (l.length - 1) z63).f0 = 11
def BodyGood (l : List S63) (chans : Int) : Prop := (0 ≤ chans ∧ chans ≤ 3) ∧ (1 ≤ l.length ∧ l.length ≤ 24) ∧ (∀ i, i < l.length → AtGood l chans i) ∧ LastGood l
theorem ev_five {α : Type} {g : Nat → Option α} {r : α} (h : ∀ k, g (k + 5) = some r) : Ev g r := ⟨5, fun n hn => by obtain ⟨m, rfl⟩ : ∃ m, n = m + 5 := ⟨n - 5, by omega⟩; exact h m⟩
theorem or_last (a : Int) : (if a = 13 then some true else some (a == 11)) = some (decide (a = 13 ∨ a = 11)) := by
  by_cases h : a = 13
  · simp [h]
  · rw [if_neg h]
    exact some_dec (by simp [h])
theorem impl_body_l (l : List S63) (chans : Int) (h1 : 1 ≤ l.length) (h2 : l.length ≤ 1048576) : ∀ (n i : Nat), i + n = l.length → (∀ j, j < i → AtGood l chans j) → ∃ b, Ev (fun k => impl_BodyOk.l0 k l chans l (l.length : Int) i) b ∧ (b = true ↔ (∀ j, j < l.length → AtGood l chans j) ∧ LastGood l) := by
  intro n
  induction n with
  | zero =>
    intro i hi hj
    have hw : wrap64 ((l.length : Int) - 1) = ((l.length - 1 : Nat) : Int) := by rw [w64 (by omega) (by omega)]; omega
    refine ⟨decide ((l.getD (l.length - 1) z63).f0 = 13 ∨ (l.getD (l.length - 1) z63).f0 = 11), Ev.step (f := fun _ => some (decide ((l.getD (l.length - 1) z63).f0 = 13 ∨ (l.getD (l.length - 1) z63).f0 = 11))) (fun k => ?_) (ev_some rfl), ?_⟩
    · rw [impl_BodyOk.l0, if_neg (by omega), hw, if_pos (by omega), if_pos (by omega), rdIns_nat, or_last]
    · rw [decide_eq_true_iff]
      exact ⟨fun h => ⟨fun j hjl => hj j (by omega), h⟩, fun h => h.2⟩
  | succ n ih =>
    intro i hi hj
    have hs : ∀ k, impl_InsOk.f (k + 5) (l.getD i z63).f0 (l.getD i z63).f1 (l.getD i z63).f2 (l.getD i z63).f3 (l.getD i z63).f4 (l.length : Int) chans = some (decide (InsGood (l.getD i z63).f0 (l.getD i z63).f1 (l.getD i z63).f2 (l.getD i z63).f3 (l.getD i z63).f4 (l.length : Int) chans)) := fun k => impl_ins _ _ _ _ _ _ _ (by omega) (by omega) k
    by_cases c : AtGood l chans i
    · obtain ⟨b, hb, hb2⟩ := ih (i + 1) (by omega) (fun j hjl => by
        by_cases e : j = i
        · subst e
          exact c
        · exact hj j (by omega))
      refine ⟨b, Ev.step (fun k => by rw [impl_BodyOk.l0]) ?_, hb2⟩
      rw [rdIns_nat]
      refine ev_pos (by omega) (ev_pos (by omega) (ev_pos (by omega) (Ev.bind (ev_five hs) (ev_pos (decide_eq_true c) ?_))))
      rw [w64_nat (by omega)]
      exact hb
    · refine ⟨false, Ev.step (fun k => by rw [impl_BodyOk.l0]) ?_, ?_⟩
      · rw [rdIns_nat]
        exact ev_pos (by omega) (ev_pos (by omega) (ev_pos (by omega) (Ev.bind (ev_five hs) (ev_neg (by rw [decide_eq_true_iff]; exact c) (ev_some rfl)))))
      · simp only [Bool.false_eq_true, false_iff]
        exact fun h => c (h.1 i (by omega))
theorem impl_body (l : List S63) (chans : Int) (h2 : l.length ≤ 1048576) : ∃ b, Ev (fun k => impl_BodyOk.f k l chans) b ∧ (b = true ↔ BodyGood l chans) := by
  unfold impl_BodyOk.f
  simp only [within_eq]
  have no : ¬ BodyGood l chans → ∃ b, Ev (fun k => impl_BodyOk.j0 k l chans true) b ∧ (b = true ↔ BodyGood l chans) := fun h => ⟨false, Ev.step (f := fun _ => some false) (fun k => by simp [impl_BodyOk.j0]) (ev_some rfl), by simp [h]⟩
  by_cases hc : 0 ≤ chans ∧ chans ≤ 3
  · by_cases hl : 1 ≤ (l.length : Int) ∧ (l.length : Int) ≤ 24
    · obtain ⟨b, hb, hb2⟩ := impl_body_l l chans (by omega) h2 l.length 0 (by omega) (fun j hj => by omega)
      refine ⟨b, ev_bind0 rfl (ev_pos (decide_eq_true hc) (ev_bind0 rfl ?_)), ?_⟩
      · rw [decide_eq_true hl, show (!true) = false from rfl]
        refine Ev.step (fun k => by rw [impl_BodyOk.j0]) (ev_neg (by decide) ?_)
        exact hb
      · rw [hb2]
        exact ⟨fun h => ⟨hc, by omega, h.1, h.2⟩, fun h => h.2.2⟩
    · obtain ⟨b, hb, hb2⟩ := no (fun h => hl (by have := h.2.1; omega))
      refine ⟨b, ev_bind0 rfl (ev_pos (decide_eq_true hc) (ev_bind0 rfl ?_)), hb2⟩
      rw [decide_eq_false hl, show (!false) = true from rfl]
      exact hb
  · obtain ⟨b, hb, hb2⟩ := no (fun h => hc h.1)
    exact ⟨b, ev_bind0 rfl (ev_neg (by simpa using hc) hb), hb2⟩
theorem spec_body_l (l : List S63) (chans : Int) (h2 : l.length ≤ 1048576) : ∀ (n i : Nat), i + n = l.length → (∀ j, j < i → AtGood l chans j) → ∃ b, Ev (fun k => spec_BodyOk.l0 k l chans (l.length : Int) i) b ∧ (b = true ↔ BodyGood l chans) := by
  intro n
  induction n with
  | zero =>
    intro i hi hj
    by_cases hl : 1 ≤ (l.length : Int) ∧ (l.length : Int) ≤ 24
    · by_cases hc : 0 ≤ chans ∧ chans ≤ 3
      · have hw : wrap64 ((l.length : Int) - 1) = ((l.length - 1 : Nat) : Int) := by rw [w64 (by omega) (by omega)]; omega
        refine ⟨decide ((l.getD (l.length - 1) z63).f0 = 13 ∨ (l.getD (l.length - 1) z63).f0 = 11), Ev.step (f := fun _ => some (decide ((l.getD (l.length - 1) z63).f0 = 13 ∨ (l.getD (l.length - 1) z63).f0 = 11))) (fun k => ?_) (ev_some rfl), ?_⟩
        · rw [spec_BodyOk.l0, if_neg (by omega), in_eq, decide_eq_true hl]
          simp only [Option.bind_some]
          rw [if_pos trivial, in_eq, decide_eq_true hc]
          simp only [Option.bind_some]
          rw [if_pos trivial, hw, if_pos (by omega), if_pos (by omega), rdIns_nat, or_last]
        · rw [decide_eq_true_iff]
          exact ⟨fun h => ⟨hc, by omega, fun j hjl => hj j (by omega), h⟩, fun h => h.2.2.2⟩
      · refine ⟨false, Ev.step (f := fun _ => some false) (fun k => ?_) (ev_some rfl), ?_⟩
        · rw [spec_BodyOk.l0, if_neg (by omega), in_eq, decide_eq_true hl]
          simp only [Option.bind_some]
          rw [if_pos trivial, in_eq, decide_eq_false hc]
          simp
        · simp only [Bool.false_eq_true, false_iff]
          exact fun h => hc h.1
    · refine ⟨false, Ev.step (f := fun _ => some false) (fun k => ?_) (ev_some rfl), ?_⟩
      · rw [spec_BodyOk.l0, if_neg (by omega), in_eq, decide_eq_false hl]
        simp
      · simp only [Bool.false_eq_true, false_iff]
        exact fun h => hl (by have := h.2.1; omega)
  | succ n ih =>
    intro i hi hj
    have hs : ∀ k, spec_InsOk.f (k + 5) (l.getD i z63).f0 (l.getD i z63).f1 (l.getD i z63).f2 (l.getD i z63).f3 (l.getD i z63).f4 (l.length : Int) chans = some (decide (InsGood (l.getD i z63).f0 (l.getD i z63).f1 (l.getD i z63).f2 (l.getD i z63).f3 (l.getD i z63).f4 (l.length : Int) chans)) := fun k => spec_ins _ _ _ _ _ _ _ k
    by_cases c : AtGood l chans i
    · obtain ⟨b, hb, hb2⟩ := ih (i + 1) (by omega) (fun j hjl => by
        by_cases e : j = i
        · subst e
          exact c
        · exact hj j (by omega))
      refine ⟨b, Ev.step (fun k => by rw [spec_BodyOk.l0]) ?_, hb2⟩
      rw [rdIns_nat]
      refine ev_pos (by omega) (ev_pos (by omega) (ev_pos (by omega) (Ev.bind (ev_five hs) (ev_pos (decide_eq_true c) ?_))))
      rw [w64_nat (by omega)]
      exact hb
    · refine ⟨false, Ev.step (fun k => by rw [spec_BodyOk.l0]) ?_, ?_⟩
      · rw [rdIns_nat]
        exact ev_pos (by omega) (ev_pos (by omega) (ev_pos (by omega) (Ev.bind (ev_five hs) (ev_neg (by rw [decide_eq_true_iff]; exact c) (ev_some rfl)))))
      · simp only [Bool.false_eq_true, false_iff]
        exact fun h => c (h.2.2.1 i (by omega))
theorem spec_body (l : List S63) (chans : Int) (h2 : l.length ≤ 1048576) : ∃ b, Ev (fun k => spec_BodyOk.f k l chans) b ∧ (b = true ↔ BodyGood l chans) :=
  spec_body_l l chans h2 l.length 0 (by omega) (fun j hj => by omega)
/-- Both tests answer alike. -/
theorem body_both (l : List S63) (chans : Int) (h2 : l.length ≤ 1048576) : ∃ b, Ev (fun k => spec_BodyOk.f k l chans) b ∧ Ev (fun k => impl_BodyOk.f k l chans) b ∧ (b = true ↔ BodyGood l chans) := by
  obtain ⟨b, h, g⟩ := spec_body l chans h2
  obtain ⟨b', h', g'⟩ := impl_body l chans h2
  have e : b = b' := by rw [Bool.eq_iff_iff, g, g']
  subst e
  exact ⟨b, h, h', g⟩
end Go.Proofs.Ytocimkpafakiaaa.CoreBodyFnExactKnownAt
