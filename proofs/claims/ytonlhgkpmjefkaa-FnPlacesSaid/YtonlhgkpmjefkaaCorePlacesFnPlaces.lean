/- Places of steps: PlaceOf and Starts answer alike by the program and the reference, and what they answer; for all programs. -/
import Derived.Test.YtonlhgkpmjefkaaXFnPlacesx13
import Derived.Test.YtonlhgkpmjefkaaCoreStartsFnPlaces
namespace Go.Proofs.Ytonlhgkpmjefkaa.CorePlacesFnPlaces
open Go.RowKit Go.Proofs.Ytonlhgkpmjefkaa.XFnPlaces Go.Proofs.Ytonlhgkpmjefkaa.Lib Go.Proofs.Ytonlhgkpmjefkaa.CoreInsFnPlaces Go.Proofs.Ytonlhgkpmjefkaa.CoreBodyFnPlaces Go.Proofs.Ytonlhgkpmjefkaa.CoreProgFnPlaces Go.Proofs.Ytonlhgkpmjefkaa.CoreStartsFnPlaces Go.Proofs.YtonlhgkpmjefkaaW.PrintWords Go.Proofs.YtonlhgkpmjefkaaW.PrintLast Go.Proofs.YtonlhgkpmjefkaaW.PrintMore
set_option linter.unusedVariables false
set_option linter.unusedSimpArgs false

theorem first_mono (l : List S37) (i j : Nat) (h : i ≤ j) : first l i ≤ first l j := by
  induction j with
  | zero =>
    have : i = 0 := by omega
    subst this
    exact Int.le_refl _
  | succ j ih =>
    by_cases e : i = j + 1
    · subst e
      exact Int.le_refl _
    · have h1 := ih (by omega)
      have h2 := size_range (l.getD j z37).f0
      show first l i ≤ first l j + size (l.getD j z37).f0
      omega
theorem impl_round (l : List S37) (hl : l.length ≤ 1048576) (a : Int) (i : Nat) (hi : i < l.length) (k : Nat) : impl_placeOf.l0 (k + 1) l a (firsts l l.length) (l.length : Int) i =
    if first l i ≤ a ∧ a < first l (i + 1) then some ((i : Int), a == first l i) else impl_placeOf.l0 k l a (firsts l l.length) (l.length : Int) ((i + 1 : Nat) : Int) := by
  have h1 := first_range l i
  have h2 := size_range (l.getD i z37).f0
  have h3 : first l (i + 1) = first l i + size (l.getD i z37).f0 := rfl
  rw [impl_placeOf.l0, if_pos (by omega), if_pos (by omega), firsts_length, if_pos (by omega), if_pos (by omega), rdIns_nat, impl_size, rd_nat, firsts_get l l.length i hi]
  simp only [Option.bind_some]
  rw [w64 (x := first l i + size (l.getD i z37).f0) (by omega) (by omega), w64 (by omega) (by omega), within_eq, w64_nat (by omega)]
  simp only [Option.bind_some, decide_eq_true_eq]
  by_cases c : first l i ≤ a ∧ a < first l (i + 1)
  · rw [if_pos c, if_pos (by omega)]
  · rw [if_neg c, if_neg (by omega)]
theorem impl_none (l : List S37) (hl : l.length ≤ 1048576) (a : Int) (h : a < 0 ∨ first l l.length ≤ a) : ∀ (n i : Nat), i + n = l.length → Ev (fun k => impl_placeOf.l0 k l a (firsts l l.length) (l.length : Int) i) (-1, false) := by
  intro n
  induction n with
  | zero =>
    intro i hi
    refine Ev.step (f := fun _ => some (-1, false)) (fun k => ?_) (ev_some rfl)
    rw [impl_placeOf.l0, if_neg (by omega)]
  | succ n ih =>
    intro i hi
    refine Ev.step (fun k => ?_) (ih (i + 1) (by omega))
    have h1 := first_range l i
    have h2 := first_mono l (i + 1) l.length (by omega)
    rw [impl_round l hl a i (by omega), if_neg (by omega)]
theorem both (l : List S37) (hl : l.length ≤ 1048576) (a : Int) (h : a < first l l.length) : ∀ (n i : Nat), i + n = l.length → first l i ≤ a → ∃ r : Int × Bool, Ev (fun k => spec_PlaceOf.l0 k a (firsts l (l.length + 1)) (l.length : Int) i) r ∧ Ev (fun k => impl_placeOf.l0 k l a (firsts l l.length) (l.length : Int) i) r ∧ (0 ≤ r.1 ∨ r.1 = -1 ∧ r.2 = false) := by
  intro n
  induction n with
  | zero =>
    intro i hi h2
    have : i = l.length := by omega
    subst this
    omega
  | succ n ih =>
    intro i hi h2
    by_cases c : a < first l (i + 1)
    · refine ⟨((i : Int), a == first l i), Ev.step (f := fun _ => some ((i : Int), a == first l i)) (fun k => ?_) (ev_some rfl), Ev.step (f := fun _ => some ((i : Int), a == first l i)) (fun k => ?_) (ev_some rfl), .inl (by show 0 ≤ (i : Int); omega)⟩
      · rw [spec_PlaceOf.l0, if_pos (by omega), w64_nat (by omega), if_pos (by omega), firsts_length, if_pos (by omega), rd_nat, firsts_get l _ (i + 1) (by omega), if_pos c, if_pos (by omega), if_pos (by omega), rd_nat, firsts_get l _ i (by omega)]
      · rw [impl_round l hl a i (by omega), if_pos ⟨h2, c⟩]
    · obtain ⟨r, h3, h4, h5⟩ := ih (i + 1) (by omega) (by omega)
      refine ⟨r, Ev.step (fun k => ?_) h3, Ev.step (fun k => ?_) h4, h5⟩
      · rw [spec_PlaceOf.l0, if_pos (by omega), w64_nat (by omega), if_pos (by omega), firsts_length, if_pos (by omega), rd_nat, firsts_get l _ (i + 1) (by omega), if_neg c]
      · rw [impl_round l hl a i (by omega), if_neg (by omega)]
theorem place_both (c : List Int) (b : List (List S37)) (hc : c.length ≤ 1048576) (hb : b.length ≤ 1048576) (he : ∀ y ∈ b, y.length ≤ 1048576) (body a : Int) : ∃ r : Int × Bool, Ev (fun k => spec_PlaceOf.f k c b body a) r ∧ Ev (fun k => impl_PlaceOf.f k c b body a) r ∧ (0 ≤ r.1 ∨ r.1 = -1 ∧ r.2 = false) := by
  obtain ⟨q, h1, h2, h3⟩ := prog_both c b hc hb he
  unfold spec_PlaceOf.f impl_PlaceOf.f
  have hw : wrap64 ((b.length : Int) - 1) = (b.length : Int) - 1 := w64 (by omega) (by omega)
  simp only [in_eq, within_eq, hw]
  have none_ : Ev (fun k => spec_PlaceOf.j0 k body a true c b) (-1, false) := Ev.step (f := fun _ => some (-1, false)) (fun k => by simp [spec_PlaceOf.j0]) (ev_some rfl)
  cases q with
  | false => exact ⟨(-1, false), Ev.bind h1 (ev_neg (by decide) none_), Ev.bind h2 (ev_neg (by decide) (ev_some rfl)), .inr ⟨rfl, rfl⟩⟩
  | true =>
    by_cases hi : 0 ≤ body ∧ body ≤ (b.length : Int) - 1
    · obtain ⟨m, rfl⟩ : ∃ m : Nat, body = (m : Int) := ⟨body.toNat, by omega⟩
      have hm : m < b.length := by omega
      have hl := he _ (L_mem b [] m hm)
      have hs := spec_starts_ev (b.getD m []) hl
      have his := impl_starts_ev (b.getD m []) hl
      have hr := first_range (b.getD m []) (b.getD m []).length
      have hlast : wrap64 (((firsts (b.getD m []) ((b.getD m []).length + 1)).length : Int) - 1) = ((b.getD m []).length : Int) := by
        rw [firsts_length, w64 (by omega) (by omega)]
        omega
      have main : ∃ r : Int × Bool, Ev (fun k => (spec_l11Starts.f k (b.getD m [])).bind fun t190 => (if 0 ≤ (wrap64 ((t190.length : Int) - 1)) then (if (wrap64 ((t190.length : Int) - 1)) < (t190.length : Int) then ((spec_l1In.f a 0 (wrap64 ((rd t190 (wrap64 ((t190.length : Int) - 1))) - 1))).bind fun t194 => (if t194 = true then (spec_PlaceOf.l0 k a t190 (wrap64 ((t190.length : Int) - 1)) 0) else (some ((-1), false)))) else (none)) else (none))) r ∧ Ev (fun k => impl_placeOf.f k (b.getD m []) a) r ∧ (0 ≤ r.1 ∨ r.1 = -1 ∧ r.2 = false) := by
        unfold impl_placeOf.f
        by_cases c2 : 0 ≤ a ∧ a ≤ first (b.getD m []) (b.getD m []).length - 1
        · obtain ⟨r, g1, g2, g3⟩ := both (b.getD m []) hl a (by omega) (b.getD m []).length 0 (by omega) (by have := c2.1; show (0 : Int) ≤ a; exact this)
          refine ⟨r, Ev.bind hs ?_, Ev.bind his ?_, g3⟩
          · rw [hlast]
            refine ev_pos (by omega) (ev_pos (by rw [firsts_length]; omega) ?_)
            rw [rd_nat, firsts_get _ _ _ (by omega), w64 (by omega) (by omega), in_eq, decide_eq_true c2]
            exact ev_bind0 rfl (ev_pos rfl g1)
          · rw [firsts_length]
            exact g2
        · refine ⟨(-1, false), Ev.bind hs ?_, Ev.bind his ?_, .inr ⟨rfl, rfl⟩⟩
          · rw [hlast]
            refine ev_pos (by omega) (ev_pos (by rw [firsts_length]; omega) ?_)
            rw [rd_nat, firsts_get _ _ _ (by omega), w64 (by omega) (by omega), in_eq, decide_eq_false c2]
            exact ev_bind0 rfl (ev_neg (by decide) (ev_some rfl))
          · rw [firsts_length]
            exact impl_none (b.getD m []) hl a (by omega) (b.getD m []).length 0 (by omega)
      obtain ⟨r, g1, g2, g3⟩ := main
      refine ⟨r, Ev.bind h1 (ev_pos rfl (ev_bind0 rfl ?_)), Ev.bind h2 (ev_pos rfl (ev_bind0 rfl (ev_pos (decide_eq_true hi) (ev_pos (by omega) (ev_pos (by omega) ?_))))), g3⟩
      · rw [decide_eq_true hi]
        refine Ev.step (fun k => ?_) g1
        rw [spec_PlaceOf.j0, if_neg (by decide), if_pos (by omega), if_pos (by omega), rdBody_nat]
      · rw [rdBody_nat]
        exact Ev.bind g2 (ev_some rfl)
    · refine ⟨(-1, false), Ev.bind h1 (ev_pos rfl (ev_bind0 rfl ?_)), Ev.bind h2 (ev_pos rfl (ev_bind0 rfl (ev_neg (by simpa using hi) (ev_some rfl)))), .inr ⟨rfl, rfl⟩⟩
      rw [decide_eq_false hi]
      exact none_
theorem starts_both (c : List Int) (b : List (List S37)) (hc : c.length ≤ 1048576) (hb : b.length ≤ 1048576) (he : ∀ y ∈ b, y.length ≤ 1048576) (body : Int) : ∃ r : List Int, r.length ≤ 1048576 ∧ Ev (fun k => spec_Starts.f k c b body) r ∧ Ev (fun k => impl_Starts.f k c b body) r ∧ (r = [] ∨ ∃ m : Nat, body = (m : Int) ∧ m < b.length ∧ r = firsts (b.getD m []) (b.getD m []).length) := by
  obtain ⟨q, h1, h2, h3⟩ := prog_both c b hc hb he
  unfold spec_Starts.f impl_Starts.f
  have hw : wrap64 ((b.length : Int) - 1) = (b.length : Int) - 1 := w64 (by omega) (by omega)
  simp only [in_eq, within_eq, hw]
  cases q with
  | false => exact ⟨[], by simp, Ev.bind h1 (ev_neg (by decide) (ev_some rfl)), Ev.bind h2 (ev_neg (by decide) (ev_some rfl)), .inl rfl⟩
  | true =>
    by_cases hi : 0 ≤ body ∧ body ≤ (b.length : Int) - 1
    · obtain ⟨m, rfl⟩ : ∃ m : Nat, body = (m : Int) := ⟨body.toNat, by omega⟩
      have hm : m < b.length := by omega
      have hl := he _ (L_mem b [] m hm)
      have hs := spec_starts_ev (b.getD m []) hl
      have his := impl_starts_ev (b.getD m []) hl
      refine ⟨firsts (b.getD m []) (b.getD m []).length, by rw [firsts_length]; exact hl, Ev.bind h1 (ev_pos rfl (ev_bind0 rfl (ev_pos (decide_eq_true hi) (ev_pos (by omega) (ev_pos (by omega) ?_))))), Ev.bind h2 (ev_pos rfl (ev_bind0 rfl (ev_pos (decide_eq_true hi) (ev_pos (by omega) (ev_pos (by omega) ?_))))), .inr ⟨m, rfl, hm, rfl⟩⟩
      · rw [rdBody_nat]
        refine Ev.bind hs ?_
        have hlast : wrap64 (((firsts (b.getD m []) ((b.getD m []).length + 1)).length : Int) - 1) = ((b.getD m []).length : Int) := by
          rw [firsts_length, w64 (by omega) (by omega)]
          omega
        rw [hlast]
        refine ev_bind0 rfl (ev_pos (by omega) (ev_pos (by rw [firsts_length]; omega) (ev_bind0 rfl ?_)))
        rw [Int.toNat_natCast, firsts_succ, List.take_left' (firsts_length _ _)]
        exact ev_pos (by rw [firsts_length]; rw [List.length_nil]; omega) (ev_some rfl)
      · rw [rdBody_nat]
        exact Ev.bind his (ev_some rfl)
    · exact ⟨[], by simp, Ev.bind h1 (ev_pos rfl (ev_bind0 rfl (ev_neg (by simpa using hi) (ev_some rfl)))), Ev.bind h2 (ev_pos rfl (ev_bind0 rfl (ev_neg (by simpa using hi) (ev_some rfl)))), .inl rfl⟩
end Go.Proofs.Ytonlhgkpmjefkaa.CorePlacesFnPlaces
