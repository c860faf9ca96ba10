/- The draws of programs: at every state of the cursor each answers, and what it tells has the lengths that it should; for all bytes of up to a million. -/
import Derived.Test.YtonlhgkpmjefkaaXFnPlacesx13
import Derived.Test.YtonlhgkpmjefkaaCoreBodiesFnPlaces
namespace Go.Proofs.Ytonlhgkpmjefkaa.CoreRightFnPlaces
open Go.RowKit Go.Proofs.Ytonlhgkpmjefkaa.XFnPlaces Go.Proofs.Ytonlhgkpmjefkaa.Lib Go.Proofs.Ytonlhgkpmjefkaa.CoreDrawFnPlaces Go.Proofs.Ytonlhgkpmjefkaa.CoreBodiesFnPlaces Go.Proofs.YtonlhgkpmjefkaaW.PrintWords Go.Proofs.YtonlhgkpmjefkaaW.PrintLast Go.Proofs.YtonlhgkpmjefkaaW.PrintMore
set_option linter.unusedVariables false
set_option linter.unusedSimpArgs false

/-- A drawn program's lengths: its channels, its bodies and the cursor behind it. -/
def QP (b : List Int) (r : List Int × List (List S37) × Int × Int) : Prop := (1 ≤ r.1.length ∧ r.1.length ≤ 3) ∧ (1 ≤ r.2.1.length ∧ r.2.1.length ≤ 4) ∧ (∀ y ∈ r.2.1, 3 ≤ y.length ∧ y.length ≤ 11) ∧ DS b r.2.2.1
theorem right1 (b : List Int) (m : Int) (caps : List Int) (hc : 1 ≤ caps.length ∧ caps.length ≤ 3) : ∀ (n j : Nat) (bs : List (List S37)) (i h : Int), j + n = 4 → bs.length = j → (∀ y ∈ bs, 3 ≤ y.length ∧ y.length ≤ 11) → DS b i → Ok (QP b) (fun k => spec_l1DrawRight.l1 k m j b i h caps bs) := by
  intro n
  have last : ∀ (j : Nat) (bs : List (List S37)) (x i h : Int), 1 ≤ j → j ≤ 4 → bs.length = j → (∀ y ∈ bs, 3 ≤ y.length ∧ y.length ≤ 11) → DS b i → Ok (QP b) (fun _ => some (caps, bs, i, h)) := fun j bs x i h h1 h4 hl hb hd => Ok.some ⟨hc, by show 1 ≤ bs.length ∧ bs.length ≤ 4; omega, hb, hd⟩
  induction n with
  | zero =>
    intro j bs i h hj hl hb hd
    refine Ok.step (fun k => by rw [spec_l1DrawRight.l1]) ?_
    refine Ok.below hd (fun x i' h' a1 a2 _ d => ?_)
    have a2' := a2 (by decide)
    show Ok (QP b) (fun k => if (j : Int) < wrap64 (1 + x) then _ else _)
    rw [w64 (x := 1 + x) (by omega) (by omega)]
    exact Ok.ite (fun g => absurd g (by omega)) (fun _ => last j bs x i' h' (by omega) (by omega) hl hb d)
  | succ n ih =>
    intro j bs i h hj hl hb hd
    refine Ok.step (fun k => by rw [spec_l1DrawRight.l1]) ?_
    refine Ok.below hd (fun x i' h' a1 a2 _ d => ?_)
    have a2' := a2 (by decide)
    show Ok (QP b) (fun k => if (j : Int) < wrap64 (1 + x) then _ else _)
    rw [w64 (x := 1 + x) (by omega) (by omega)]
    refine Ok.ite (fun g => ?_) (fun g => last j bs x i' h' (by omega) (by omega) hl hb d)
    refine Ok.bind (body_ok b i' h' m d) (fun y hy => ?_)
    refine Ok.ite (fun _ => ?_) (fun g => absurd (by omega) g)
    rw [w64_nat (by omega)]
    exact ih (j + 1) _ _ _ (by omega) (by simp; omega) (fun z hz => by
      rcases List.mem_append.1 hz with h | h
      · exact hb z h
      · rw [List.mem_singleton.1 h]
        exact ⟨hy.1, hy.2.1⟩) hy.2.2
theorem right0 (b : List Int) (m : Int) (hm : 1 ≤ m ∧ m ≤ 3) : ∀ (n j : Nat) (caps : List Int) (i h : Int), (j : Int) + n = m → caps.length = j → DS b i → Ok (QP b) (fun k => spec_l1DrawRight.l0 k m j b i h caps) := by
  intro n
  induction n with
  | zero =>
    intro j caps i h hj hl hd
    refine Ok.step (fun k => by rw [spec_l1DrawRight.l0, if_neg (by omega)]) ?_
    exact right1 b m caps (by omega) 4 0 [] i h rfl rfl (fun y hy => by cases hy) hd
  | succ n ih =>
    intro j caps i h hj hl hd
    refine Ok.step (fun k => by rw [spec_l1DrawRight.l0, if_pos (by omega)]) ?_
    refine Ok.below hd (fun x i' h' a1 a2 _ d => ?_)
    refine Ok.ite (fun _ => ?_) (fun g => absurd (by omega) g)
    rw [w64_nat (by omega)]
    exact ih (j + 1) _ _ _ (by omega) (by simp; omega) d
theorem right_ok (b : List Int) (i h : Int) (hd : DS b i) : Ok (QP b) (fun k => spec_l1DrawRight.f k b i h) := by
  unfold spec_l1DrawRight.f
  refine Ok.below hd (fun x i' h' a1 a2 _ d => ?_)
  have a2' := a2 (by decide)
  show Ok (QP b) (fun k => spec_l1DrawRight.l0 k (wrap64 (1 + x)) 0 b i' h' [])
  rw [w64 (x := 1 + x) (by omega) (by omega)]
  exact right0 b (1 + x) (by omega) (1 + x).toNat 0 [] i' h' (by omega) rfl d
/-- A drawn program, right or not. -/
def QQ (b : List Int) (r : List Int × List (List S37) × Int × Int) : Prop := r.1.length ≤ 6 ∧ r.2.1.length ≤ 4 ∧ (∀ y ∈ r.2.1, y.length ≤ 11) ∧ DS b r.2.2.1
theorem draw_ok (b : List Int) (i h : Int) (hd : DS b i) : Ok (QQ b) (fun k => spec_l1Draw.f k b i h) := by
  unfold spec_l1Draw.f
  refine Ok.bind (right_ok b i h hd) (fun p hp => ?_)
  obtain ⟨p1, p2, p3, p4⟩ := hp
  have q3 : ∀ y ∈ p.2.1, y.length ≤ 11 := fun y hy => (p3 y hy).2
  refine Ok.below p4 (fun x i' h' a1 a2 _ d => ?_)
  refine Ok.ite (fun _ => ?_) (fun _ => Ok.ite (fun _ => ?_) (fun _ => Ok.ite (fun _ => Ok.some ⟨by show p.1.length ≤ 6; omega, by simp, fun y hy => (by cases hy), d⟩) (fun _ => Ok.ite (fun _ => ?_) (fun _ => Ok.some ⟨by show p.1.length ≤ 6; omega, by show p.2.1.length ≤ 4; omega, q3, d⟩))))
  · refine Ok.pick (by decide) d (fun x2 i2 h2 _ d2 => Ok.ite (fun _ => Ok.some ⟨?_, by show p.2.1.length ≤ 4; omega, q3, d2⟩) (fun g => absurd (by omega) g))
    show (p.1.set _ _).length ≤ 6
    rw [List.length_set]
    omega
  · have hm : rd_L3 p.2.1 0 ∈ p.2.1 := by
      unfold rd_L3
      rw [List.getD_eq_getElem?_getD, List.getElem?_eq_getElem (show (0 : Int).toNat < p.2.1.length by show 0 < p.2.1.length; omega)]
      exact List.getElem_mem _
    have hl := p3 _ hm
    refine Ok.ite (fun _ => Ok.ite (fun _ => Ok.bind (P := Q7 b) (spoil_ok b i' h' _ _ _ _ _ d) (fun z hz => Ok.some ⟨by show p.1.length ≤ 6; omega, ?_, ?_, hz⟩)) (fun g => absurd (by omega) g)) (fun g => absurd (by omega) g)
    · show (p.2.1.set _ _).length ≤ 4
      rw [List.length_set]
      omega
    · intro y hy
      rcases List.mem_or_eq_of_mem_set hy with g | g
      · exact q3 y g
      · rw [g, List.length_set]
        exact hl.2
  · refine Ok.bind0 rfl (Ok.ite (fun _ => Ok.some ⟨?_, by show p.2.1.length ≤ 4; omega, q3, d⟩) (fun g => absurd (by simp; omega) g))
    show (p.1 ++ [1, 1, 1]).length ≤ 6
    rw [List.length_append]
    simp
    omega
end Go.Proofs.Ytonlhgkpmjefkaa.CoreRightFnPlaces
