/- The places of a drawn program's steps are told as the chapter says, for all bytes; those beyond are none. -/
import Derived.Test.YtonlhgkpmjefkaaXFnPlacesx13
import Derived.Test.YtonlhgkpmjefkaaHlpFnPlaces
import Derived.Test.YtonlhgkpmjefkaaCoreRightFnPlaces
import Derived.Test.YtonlhgkpmjefkaaCorePlacesFnPlaces
namespace Go.Proofs.Ytonlhgkpmjefkaa.Pure
open Go.RowKit Go.Proofs.Ytonlhgkpmjefkaa.XFnPlaces Go.Proofs.Ytonlhgkpmjefkaa.Lib Go.Proofs.Ytonlhgkpmjefkaa.HlpFnPlaces Go.Proofs.Ytonlhgkpmjefkaa.CoreBodyFnPlaces Go.Proofs.Ytonlhgkpmjefkaa.CoreProgFnPlaces Go.Proofs.Ytonlhgkpmjefkaa.CoreStartsFnPlaces Go.Proofs.Ytonlhgkpmjefkaa.CorePlacesFnPlaces Go.Proofs.Ytonlhgkpmjefkaa.CoreDrawFnPlaces Go.Proofs.Ytonlhgkpmjefkaa.CoreBodiesFnPlaces Go.Proofs.Ytonlhgkpmjefkaa.CoreRightFnPlaces Go.Proofs.YtonlhgkpmjefkaaW.PrintWords Go.Proofs.YtonlhgkpmjefkaaW.PrintLast Go.Proofs.YtonlhgkpmjefkaaW.PrintMore
open Go.Proofs.Ytonlhgkpmjefkaa
set_option linter.unusedVariables false
set_option linter.unusedSimpArgs false

theorem sameInts_l (q : List Int) (hq : q.length ≤ 1048576) : ∀ (n i : Nat), i + n = q.length → Ev (fun k => laws_sameInts.l0 k q q i) true := by
  intro n
  induction n with
  | zero =>
    intro i hi
    refine Ev.step (f := fun _ => some true) (fun k => ?_) (ev_some rfl)
    rw [laws_sameInts.l0, if_neg (by omega)]
  | succ n ih =>
    intro i hi
    refine Ev.step (fun k => ?_) (ih (i + 1) (by omega))
    rw [laws_sameInts.l0, if_pos (by omega), if_pos (by omega), if_pos (by omega), if_pos rfl, w64_nat (by omega)]
theorem sameInts_ev (q : List Int) (hq : q.length ≤ 1048576) : Ev (fun k => laws_sameInts.f k q q) true := by
  unfold laws_sameInts.f
  exact ev_pos rfl (sameInts_l q hq q.length 0 (by omega))
theorem drawStarts_ok (b : List Int) (hb : b.length ≤ 1048576) : Ok (fun r : List Int × List (List S37) × Int => r.1.length ≤ 6 ∧ r.2.1.length ≤ 4 ∧ ∀ y ∈ r.2.1, y.length ≤ 11) (fun k => spec_DrawStarts.f k b) := by
  unfold spec_DrawStarts.f
  obtain ⟨h', e, d⟩ := new_ok b hb
  refine Ok.bind (P := fun r => r = (b, 0, h')) ⟨_, e, rfl⟩ (fun x hx => ?_)
  subst hx
  refine Ok.bind (draw_ok b 0 h' d) (fun p hp => Ok.below hp.2.2.2 (fun x1 i1 h1 _ _ _ d1 => Ok.below d1 (fun x2 i2 h2 _ _ _ d2 => Ok.some ⟨hp.1, hp.2.1, hp.2.2.1⟩)))
theorem drawPlaceOf_ok (b : List Int) (hb : b.length ≤ 1048576) : Ok (fun r : List Int × List (List S37) × Int × Int => r.1.length ≤ 6 ∧ r.2.1.length ≤ 4 ∧ ∀ y ∈ r.2.1, y.length ≤ 11) (fun k => spec_DrawPlaceOf.f k b) := by
  unfold spec_DrawPlaceOf.f
  obtain ⟨h', e, d⟩ := new_ok b hb
  refine Ok.bind (drawStarts_ok b hb) (fun p hp => Ok.bind (P := fun r => r = (b, 0, h')) ⟨_, e, rfl⟩ (fun x hx => ?_))
  subst hx
  exact Ok.below d (fun x1 i1 h1 _ _ _ d1 => Ok.below d1 (fun x2 i2 h2 _ _ _ d2 => Ok.some hp))
theorem ends (x6 : Int) (x7 : Bool) (hx : 0 ≤ x6 ∨ x6 = -1 ∧ x7 = false) : Ev (fun _ => if x6 ≥ 0 then some true else if x6 = -1 then some (!x7) else some false) true := by
  rcases hx with h | ⟨h, h2⟩
  · exact ev_pos h (ev_some rfl)
  · exact ev_neg (by omega) (ev_pos h (ev_some (by rw [h2]; rfl)))
theorem steps_l (x6 : Int) (x7 : Bool) (hx : 0 ≤ x6 ∨ x6 = -1 ∧ x7 = false) (c : List Int) (b : List (List S37)) (m : Nat) (hm : m < b.length) (hl : (b.getD m []).length ≤ 1048576) : ∀ (n i : Nat), 1 ≤ i → i + n = (b.getD m []).length → Ev (fun k => laws_FnPlaces.l0 k x6 x7 (m : Int) (firsts (b.getD m []) (b.getD m []).length) i c b) true := by
  intro n
  induction n with
  | zero =>
    intro i h1 hi
    refine Ev.step (fun k => by rw [laws_FnPlaces.l0, if_neg (by rw [firsts_length]; omega)]) ?_
    exact ends x6 x7 hx
  | succ n ih =>
    intro i h1 hi
    obtain ⟨j, rfl⟩ : ∃ j, i = j + 1 := ⟨i - 1, by omega⟩
    have hw : wrap64 (((j + 1 : Nat) : Int) - 1) = (j : Int) := by
      rw [w64 (by omega) (by omega)]
      omega
    have r1 := first_range (b.getD m []) j
    have r2 := first_range (b.getD m []) (j + 1)
    have hf : first (b.getD m []) (j + 1) = first (b.getD m []) j + size ((b.getD m []).getD j z37).f0 := rfl
    refine Ev.step (fun k => ?_) (ih (j + 1 + 1) (by omega) (by omega))
    rw [laws_FnPlaces.l0, firsts_length, hw, if_pos (by omega), if_pos (by omega), if_pos (by omega), if_pos (by omega), if_pos (by omega), if_pos (by omega), rdBody_nat, if_pos (by omega), rdIns_nat, impl_size, rd_nat, rd_nat, firsts_get _ _ _ (by omega), firsts_get _ _ _ (by omega)]
    simp only [Option.bind_some]
    rw [if_pos (by rw [w64 (by omega) (by omega)]; omega), w64_nat (by omega)]
theorem FnPlaces : laws_FnPlaces.Pure := by
  intro b _ _ _
  refine Ev.rounds ?_
  unfold laws_FnPlaces.f laws_big.f
  refine ev_bind0 rfl (ev_ite (fun _ => ev_some rfl) (fun cc => ?_))
  have hb : b.length ≤ 1048576 := by
    have := of_decide_eq_false (Bool.eq_false_iff.mpr cc)
    omega
  obtain ⟨⟨c1, b1, k1, a1⟩, e1, hc1, hb1, hy1⟩ := drawPlaceOf_ok b hb
  obtain ⟨⟨c2, b2, k2⟩, e2, hc2, hb2, hy2⟩ := drawStarts_ok b hb
  replace hc1 : c1.length ≤ 6 := hc1
  replace hb1 : b1.length ≤ 4 := hb1
  replace hc2 : c2.length ≤ 6 := hc2
  replace hb2 : b2.length ≤ 4 := hb2
  obtain ⟨r, p1, p2, p3⟩ := place_both c1 b1 (by omega) (by omega) (fun y hy => Nat.le_trans (hy1 y hy) (by omega)) k1 a1
  have he2 : ∀ y ∈ b2, y.length ≤ 1048576 := fun y hy => Nat.le_trans (hy2 y hy) (by omega)
  obtain ⟨q, hq, s1, s2, s3⟩ := starts_both c2 b2 (by omega) (by omega) he2 k2
  refine Ev.bind e1 (Ev.bind p2 (Ev.bind p1 (Ev.bind e2 (Ev.bind s2 (ev_pos rfl (ev_neg (by simp) (Ev.bind s1 (Ev.bind (sameInts_ev q hq) ?_))))))))
  refine Ev.step (fun k => by rw [laws_FnPlaces.j0]) (ev_neg (by decide) ?_)
  rcases s3 with rfl | ⟨m, rfl, hm, rfl⟩
  · refine Ev.step (fun k => by rw [laws_FnPlaces.l0]) (ev_neg (by simp) ?_)
    exact ends r.1 r.2 p3
  · by_cases h0 : (b2.getD m []).length = 0
    · refine Ev.step (fun k => by rw [laws_FnPlaces.l0]) (ev_neg (by rw [firsts_length]; omega) ?_)
      exact ends r.1 r.2 p3
    · exact steps_l r.1 r.2 p3 c2 b2 m hm (he2 _ (L_mem b2 [] m hm)) ((b2.getD m []).length - 1) 1 (by omega) (by omega)
end Go.Proofs.Ytonlhgkpmjefkaa.Pure
