/- What is emitted for what was drawn: the two rows are the same, as long as EmitSize tells, every step is well formed, and every jump stays in the row or goes to a first step. -/
import Derived.Test.YtonlhgkpmjefkaaXFnEmittedx20
import Derived.Test.YtonlhgkpmjefkaaCoreBodiesFnEmitted
import Derived.Test.YtonlhgkpmjefkaaCoreEmittedFnEmitted
namespace Go.Proofs.Ytonlhgkpmjefkaa.Pure
open Go.RowKit Go.Proofs.Ytonlhgkpmjefkaa.XFnEmitted Go.Proofs.Ytonlhgkpmjefkaa.Lib Go.Proofs.Ytonlhgkpmjefkaa.CoreInsFnEmitted Go.Proofs.Ytonlhgkpmjefkaa.CoreDrawFnEmitted Go.Proofs.Ytonlhgkpmjefkaa.CoreBodiesFnEmitted Go.Proofs.Ytonlhgkpmjefkaa.CoreEmittedFnEmitted Go.Proofs.YtonlhgkpmjefkaaW.PrintWords Go.Proofs.YtonlhgkpmjefkaaW.PrintLast Go.Proofs.YtonlhgkpmjefkaaW.PrintMore
set_option linter.unusedVariables false
set_option linter.unusedSimpArgs false

/-! ### the draws -/
theorem ok_ev {α β : Type} {Q : β → Prop} {g : Nat → Option α} {x : α} {f : Nat → α → Option β} (h : Ev g x) (k : Ok Q (fun n => f n x)) : Ok Q (fun n => (g n).bind (f n)) := by
  obtain ⟨r, hr, q⟩ := k
  exact ⟨r, Ev.bind h hr, q⟩
theorem once_ok (b : List Int) (i h n : Int) (hd : DS b i) : ∃ t i' h', spec_l1Once.f b i h n = some (t, i', h') ∧ DS b i' := by
  obtain ⟨x, i', h', e, _, _, _, d⟩ := below_ok b i h n hd
  exact ⟨x == 0, i', h', by unfold spec_l1Once.f; rw [e]; rfl, d⟩
def QC (b : List Int) (r : List Int × Int × Int) : Prop := r.1.length ≤ 1000 ∧ DS b r.2.1
theorem caps_l (b : List Int) : ∀ (n j : Nat) (out : List Int) (i h : Int), j + n = 3 → out.length = j → DS b i → Ok (QC b) (fun k => spec_l9DrawCaps.l0 k out (j : Int) b i h) := by
  intro n
  induction n with
  | zero =>
    intro j out i h hj ho hd
    refine Ok.step (fun k => by rw [spec_l9DrawCaps.l0]) ?_
    refine Ok.below hd (fun x i1 h1 a1 c1 _ d1 => Ok.ite (fun c => ?_) (fun c => ?_))
    · have c' := c1 (by decide)
      rw [show wrap64 (1 + (x, i1, h1).1) = 1 + x from w64 (by show _ ≤ 1 + x; omega) (by show 1 + x ≤ _; omega)] at c
      omega
    · refine Ok.below d1 (fun y i2 h2 _ _ _ d2 => ?_)
      refine Ok.ite (fun _ => Ok.bind0 rfl (Ok.ite (fun _ => Ok.some ⟨by simp [ho]; omega, d2⟩) (fun c => absurd (show out.length + 3 < 17592186044416 by omega) c))) (fun _ => ?_)
      refine Ok.ite (fun _ => Ok.pick (by decide) d2 (fun z i3 h3 _ d3 => Ok.ite (fun _ => Ok.some ⟨by simp [ho]; omega, d3⟩) (fun c => absurd (show 0 < (out.length : Int) by omega) c))) (fun _ => Ok.some ⟨by show out.length ≤ _; omega, d2⟩)
  | succ n ih =>
    intro j out i h hj ho hd
    refine Ok.step (fun k => by rw [spec_l9DrawCaps.l0]) ?_
    refine Ok.below hd (fun x i1 h1 a1 c1 _ d1 => Ok.ite (fun c => ?_) (fun c => ?_))
    · refine Ok.below d1 (fun y i2 h2 _ _ _ d2 => Ok.ite (fun _ => ?_) (fun c => absurd (show out.length < 17592186044416 by omega) c))
      rw [w64_nat (by omega)]
      exact ih (j + 1) _ _ _ (by omega) (by simp [ho]) d2
    · rw [show wrap64 (1 + (x, i1, h1).1) = 1 + x from w64 (by show _ ≤ 1 + x; omega) (by have := c1 (by decide); show 1 + x ≤ _; omega)] at c
      refine Ok.below d1 (fun y i2 h2 _ _ _ d2 => ?_)
      refine Ok.ite (fun _ => Ok.bind0 rfl (Ok.ite (fun _ => Ok.some ⟨by simp [ho]; omega, d2⟩) (fun c => absurd (show out.length + 3 < 17592186044416 by omega) c))) (fun _ => ?_)
      refine Ok.ite (fun _ => Ok.pick (by decide) d2 (fun z i3 h3 _ d3 => Ok.ite (fun _ => Ok.some ⟨by simp [ho]; omega, d3⟩) (fun c => absurd (show 0 < (out.length : Int) by omega) c))) (fun _ => Ok.some ⟨by show out.length ≤ _; omega, d2⟩)
/-- What DrawEmit tells. -/
def QE (r : List Int × Int × Int × Int × Int × Int × Int × List Int) : Prop := r.1.length ≤ 1000 ∧ 0 ≤ r.2.2.2.2.2.2.1 ∧ r.2.2.2.2.2.2.1 < 200 ∧ r.2.2.2.2.2.2.2 = [0, 1, 30, 60, 61]
theorem drawEmit_ok (l : List Int) (hl : l.length ≤ 1048576) : Ok QE (fun k => spec_DrawEmit.f k l) := by
  obtain ⟨h', e, d⟩ := new_ok l hl
  unfold spec_DrawEmit.f
  refine ok_ev e (Ok.bind (caps_l l 3 0 [] _ _ rfl rfl d) (fun r hr => Ok.bind (ins_ok _ _ _ _ _ hr.2) (fun q hq => ?_)))
  obtain ⟨t, i1, h1, e1, d1⟩ := once_ok l q.2.2.2.2.2.1 q.2.2.2.2.2.2 6 hq
  refine Ok.bind0 e1 (Ok.ite (fun _ => Ok.bind (spoil_ok _ _ _ _ _ _ _ _ d1) (fun s hs => ?_)) (fun _ => ?_))
  · exact Ok.below hs (fun x i h a c _ d => Ok.some ⟨hr.1, a, c (by decide), rfl⟩)
  · exact Ok.below d1 (fun x i h a c _ d => Ok.some ⟨hr.1, a, c (by decide), rfl⟩)
theorem drawSize_ok (l : List Int) (hl : l.length ≤ 1048576) : Ok (fun _ => True) (fun k => spec_DrawEmitSize.f k l) := by
  obtain ⟨h', e, d⟩ := new_ok l hl
  have h1 : Ok (fun _ => True) (fun k => spec_l1DrawOne.f k l) := by
    unfold spec_l1DrawOne.f
    refine ok_ev e (Ok.bind (ins_ok _ _ _ _ _ d) (fun q hq => ?_))
    obtain ⟨t, i1, h1, e1, d1⟩ := once_ok l q.2.2.2.2.2.1 q.2.2.2.2.2.2 3 hq
    exact Ok.bind0 e1 (Ok.ite (fun _ => Ok.bind (spoil_ok _ _ _ _ _ _ _ _ d1) (fun s hs => Ok.some trivial)) (fun _ => Ok.some trivial))
  unfold spec_DrawEmitSize.f
  exact Ok.bind h1 (fun _ _ => Ok.some trivial)
/-! ### sizes, sameness -/
def esz (op : Int) : Int := if op = 5 then 29 else if op = 7 then 31 else if op = 6 then 30 else if op = 8 then 32 else if op = 9 then 13 else if 1 ≤ op ∧ op ≤ 13 then 1 else 0
theorem spec_size (a b c d e : Int) : spec_EmitSize.f a b c d e = some (esz a) := by
  unfold spec_EmitSize.f esz
  rw [in_eq]
  simp only [Option.bind_some, spec_l4Bit.f, decide_eq_true_eq]
  repeat' split
  all_goals rfl
theorem impl_size (a b c d e : Int) : impl_EmitSize.f a b c d e = some (esz a) := by
  unfold impl_EmitSize.f esz
  rw [within_eq]
  simp only [Option.bind_some, impl_number.f, decide_eq_true_eq]
  repeat' split
  all_goals rfl
theorem esz_of (a : Int) (h : 1 ≤ a ∧ a ≤ 13) : esz a = stepsOf a := by
  unfold esz stepsOf
  rw [if_pos h]
theorem same_l (r : List S46) (hr : r.length ≤ 1000) : ∀ (n i : Nat), i + n = r.length → Ev (fun k => laws_sameSteps.l0 k r r (i : Int)) true := by
  intro n
  induction n with
  | zero =>
    intro i hi
    exact Ev.step (fun k => by rw [laws_sameSteps.l0]) (ev_neg (by omega) (ev_some rfl))
  | succ n ih =>
    intro i hi
    refine Ev.step (fun k => by rw [laws_sameSteps.l0]) ?_
    rw [w64_nat (by omega)]
    exact ev_pos (by omega) (ev_pos (by omega) (ev_pos (by omega) (ev_neg (by simp) (ih (i + 1) (by omega)))))
theorem same_ev (r : List S46) (hr : r.length ≤ 1000) : Ev (fun k => laws_sameSteps.f k r r) true := by
  unfold laws_sameSteps.f
  exact ev_pos rfl (same_l r hr r.length 0 (by omega))
theorem within_l (l : List Int) (v : Int) (hl : l.length ≤ 1000) : ∀ (n i : Nat), i + n = l.length → v ∈ l.drop i → Ev (fun k => laws_within.l0 k l v (i : Int)) true := by
  intro n
  induction n with
  | zero =>
    intro i hi hv
    rw [List.drop_of_length_le (by omega)] at hv
    cases hv
  | succ n ih =>
    intro i hi hv
    refine Ev.step (fun k => by rw [laws_within.l0]) ?_
    rw [w64_nat (by omega)]
    refine ev_pos (by omega) (ev_pos (by omega) (ev_ite (fun _ => ev_some rfl) (fun c => ih (i + 1) (by omega) ?_)))
    rw [List.drop_eq_getElem_cons (show i < l.length by omega)] at hv
    rcases List.mem_cons.1 hv with rfl | hv
    · exact absurd (by rw [rd_nat, List.getD_eq_getElem?_getD, List.getElem?_eq_getElem (show i < l.length by omega)]; rfl) c
    · exact hv
theorem within_ev (l : List Int) (v : Int) (hl : l.length ≤ 1000) (hv : v ∈ l) : Ev (fun k => laws_within.f k l v) true := within_l l v hl l.length 0 (by omega) hv
/-! ### a step -/
theorem isCell_eq (a : Int) : impl_isCell.f a = some (decide (0 ≤ a ∧ a ≤ 23)) := by
  unfold impl_isCell.f
  rw [within_eq]
  rfl
theorem named_ev {fr m : Int} {l : List Int} (op r a b n : Int) (h : StG fr m l ⟨op, r, a, b, n⟩) : Ev (fun k => impl_stepNamed.f k op r a b n) (op, r, a, b, n) := by
  refine ⟨2, fun k hk => ?_⟩
  obtain ⟨k, rfl⟩ : ∃ q, k = q + 2 := ⟨k - 2, by omega⟩
  simp only [StG] at h
  rcases h with ⟨rfl, _, _, rfl, rfl, _⟩ | ⟨rfl | rfl | rfl, _, _, _, _, _, _, rfl⟩ | ⟨rfl, _, _, _, _, rfl, _⟩ | ⟨rfl | rfl, rfl, _⟩ | ⟨rfl, _, _, rfl, _⟩ | ⟨rfl, rfl, _, _, rfl, rfl⟩ | ⟨rfl, rfl, rfl, rfl, _⟩ | ⟨rfl, rfl, _, _, rfl, _⟩ | ⟨rfl | rfl, rfl, rfl, rfl, rfl⟩
  all_goals simp [impl_stepNamed.f, impl_stepNamed.j0, impl_stepNamed.j1]
theorem j2_ev (op r a b n : Int) (z : Bool) (hc : z = true → 0 ≤ n ∧ n ≤ 23) (hj : op = 10 ∨ op = 11 → 0 ≤ n ∧ n < 800) : Ev (fun k => impl_StepOk.j2 k 800 op z op r a b n) true := by
  refine Ev.step (fun k => by rw [impl_StepOk.j2]) ?_
  cases z with
  | true => exact ev_pos rfl (ev_bind0 (isCell_eq n) (ev_some (decide_eq_true (hc rfl))))
  | false =>
    refine ev_neg (by decide) (ev_ite (fun c => ?_) (fun _ => ev_ite (fun c => ?_) (fun _ => ev_some rfl)))
    · exact ev_pos (hj (.inl c)).1 (ev_some (decide_eq_true (hj (.inl c)).2))
    · exact ev_pos (hj (.inr c)).1 (ev_some (decide_eq_true (hj (.inr c)).2))
theorem j1_ev (op r a b n : Int) (h1 : op = 1 → -1000000000 ≤ n ∧ n ≤ 1000000000) (hc : op = 5 ∨ op = 6 ∨ op = 7 ∨ op = 8 → 0 ≤ n ∧ n ≤ 23) (hj : op = 10 ∨ op = 11 → 0 ≤ n ∧ n < 800) : Ev (fun k => impl_StepOk.j1 k 800 false op r a b n) true := by
  refine Ev.step (fun k => by rw [impl_StepOk.j1]) ?_
  refine ev_neg (by decide) (ev_ite (fun c => ev_bind0 (within_eq _ _ _) (ev_some (decide_eq_true (h1 c)))) (fun _ => ?_))
  refine ev_ite (fun c => ?_) (fun _ => ev_ite (fun c => ?_) (fun _ => ev_ite (fun c => ?_) (fun _ => ?_)))
  · exact j2_ev op r a b n _ (fun e => hc (by have := eq_of_beq e; omega)) hj
  · exact j2_ev op r a b n _ (fun e => hc (by have := eq_of_beq e; omega)) hj
  · exact j2_ev op r a b n _ (fun e => hc (by have := eq_of_beq e; omega)) hj
  · exact j2_ev op r a b n _ (fun e => hc (by have := eq_of_beq e; omega)) hj
theorem j0_ev (lo op r a b n : Int) (ho : 1 ≤ op ∧ op ≤ 13) (hr : 0 ≤ r ∧ r ≤ 7) (ha : lo ≤ a ∧ a ≤ 7) (hb : 0 ≤ b ∧ b ≤ 7) (hn : Ev (fun k => impl_stepNamed.f k op r a b n) (op, r, a, b, n)) (ht : Ev (fun k => impl_StepOk.j1 k 800 false op r a b n) true) : Ev (fun k => impl_StepOk.j0 k 800 lo op r a b n) true := by
  refine Ev.step (fun k => by rw [impl_StepOk.j0]) ?_
  refine ev_bind0 (within_eq _ _ _) (ev_pos (decide_eq_true ho) (Ev.bind hn (ev_neg (by simp) (ev_bind0 (within_eq _ _ _) (ev_pos (decide_eq_true hr) (ev_bind0 (within_eq _ _ _) (ev_pos (decide_eq_true ha) (ev_bind0 (within_eq _ _ _) ?_))))))))
  rw [decide_eq_true hb]
  exact ht
theorem stepOk_ev (fr m : Int) (l : List Int) (s : S46) (h : StG fr m l s) : Ev (fun k => impl_StepOk.f k s.f0 s.f1 s.f2 s.f3 s.f4 800) true := by
  obtain ⟨op, r, a, b, n⟩ := s
  have hn := named_ev op r a b n h
  have F : (1 ≤ op ∧ op ≤ 13) ∧ (0 ≤ r ∧ r ≤ 7) ∧ (0 ≤ b ∧ b ≤ 7) ∧ ((-1 ≤ a ∧ a ≤ 7) ∧ (5 ≤ op ∧ op ≤ 7 ∨ 0 ≤ a)) ∧ (op = 1 → -1000000000 ≤ n ∧ n ≤ 1000000000) ∧ (op = 5 ∨ op = 6 ∨ op = 7 ∨ op = 8 → 0 ≤ n ∧ n ≤ 23) ∧ (op = 10 ∨ op = 11 → 0 ≤ n ∧ n < 800) := by
    simp only [StG] at h
    rcases h with h | h | h | h | h | h | ⟨h1, h2, h3, h4, h5, h6, _⟩ | ⟨h1, h2, h3, h4, h7, h5, h6, _⟩ | h
    all_goals omega
  obtain ⟨f1, f2, f3, ⟨f4, f5⟩, f6, f7, f8⟩ := F
  have ht := j1_ev op r a b n f6 f7 f8
  unfold impl_StepOk.f
  refine ev_bind0 (within_eq _ _ _) (ev_ite (fun c => ?_) (fun c => ?_))
  · exact j0_ev _ op r a b n f1 f2 f4 f3 hn ht
  · have c' : ¬ (5 ≤ op ∧ op ≤ 7) := fun h => c (decide_eq_true h)
    exact j0_ev _ op r a b n f1 f2 (by omega) f3 hn ht
theorem jump_of {fr m : Int} {l : List Int} {s : S46} (h : StG fr m l s) (c : s.f0 = 10 ∨ s.f0 = 11) : JOk fr m l s.f4 := by
  rcases h with h | h | h | h | h | h | h | h | h
  · omega
  · omega
  · omega
  · omega
  · omega
  · omega
  · exact h.2.2.2.2
  · exact h.2.2.2.2.2
  · omega
theorem rdS_mem (r : List S46) (i : Nat) (h : i < r.length) : rd_T46 r (i : Int) ∈ r := by
  unfold rd_T46
  rw [Int.toNat_natCast, List.getD_eq_getElem?_getD, List.getElem?_eq_getElem h]
  exact List.getElem_mem _
theorem loop_l (fr : Int) (l : List Int) (r : List S46) (hf : 0 ≤ fr ∧ fr < 200) (hl : l.length ≤ 1000) (hr : r.length ≤ 100) (hg : GAll fr (r.length : Int) l r) : ∀ (n i : Nat), i + n = r.length → Ev (fun k => laws_FnEmitted.l0 k fr l r (i : Int)) true := by
  intro n
  induction n with
  | zero =>
    intro i hi
    exact Ev.step (fun k => by rw [laws_FnEmitted.l0]) (ev_neg (by omega) (ev_some rfl))
  | succ n ih =>
    intro i hi
    have h1 := ih (i + 1) (by omega)
    have hs := hg _ (rdS_mem r i (by omega))
    have hj := jump_of hs
    have w : (rd_T46 r (i : Int)).f0 = 10 ∨ (rd_T46 r (i : Int)).f0 = 11 → (rd_T46 r (i : Int)).f4 < fr ∨ (rd_T46 r (i : Int)).f4 > fr + (r.length : Int) → Ev (fun k => laws_within.f k l (rd_T46 r (i : Int)).f4) true := fun c q => by
      obtain ⟨_, _, j | j⟩ := hj c
      · omega
      · exact within_ev l _ hl j
    refine Ev.step (fun k => by rw [laws_FnEmitted.l0]) ?_
    rw [w64_nat (by omega), w64 (x := fr + (r.length : Int)) (by omega) (by omega)]
    refine ev_pos (by omega) (ev_pos (by omega) (Ev.bind (stepOk_ev _ _ _ _ hs) (ev_pos rfl ?_)))
    refine ev_ite (fun c => ?_) (fun _ => ev_ite (fun c => ?_) (fun _ => h1))
    · exact ev_ite (fun q => Ev.bind (w (.inl c) (.inl q)) (ev_pos rfl h1)) (fun _ => ev_ite (fun q => Ev.bind (w (.inl c) (.inr q)) (ev_pos rfl h1)) (fun _ => h1))
    · exact ev_ite (fun q => Ev.bind (w (.inr c) (.inl q)) (ev_pos rfl h1)) (fun _ => ev_ite (fun q => Ev.bind (w (.inr c) (.inr q)) (ev_pos rfl h1)) (fun _ => h1))
theorem FnEmitted : laws_FnEmitted.Pure := by
  intro l0 p0 p1 p2
  refine Ev.rounds ?_
  unfold laws_FnEmitted.f
  refine ev_bind0 rfl (ev_ite (fun _ => ev_some rfl) (fun c => ?_))
  have hl : l0.length ≤ 1048576 := by
    have : ¬ ((l0.length : Int) > 1048576) := fun h => c (decide_eq_true h)
    omega
  obtain ⟨⟨caps, x0, x1, x2, x3, x4, fr, l3⟩, eq, h1, h2, h3, h4⟩ := drawEmit_ok l0 hl
  obtain ⟨z, ez, _⟩ := drawSize_ok l0 hl
  have h1' : caps.length ≤ 1000 := h1
  have h2' : 0 ≤ fr := h2
  have h3' : fr < 200 := h3
  have h4' : l3 = [0, 1, 30, 60, 61] := h4
  obtain ⟨r, hr, e1, e2, hg⟩ := emit_both caps l3 (by omega) (by rw [h4']; decide) x0 x1 x2 x3 x4 fr (w64 (by omega) (by omega))
  have hg' := hg ⟨h2', h3'⟩ (by rw [h4']; decide)
  refine Ev.bind eq (Ev.bind e2 (Ev.bind e1 (Ev.bind ez (Ev.bind (same_ev r (by omega)) (ev_pos rfl (ev_bind0 (impl_size _ _ _ _ _) (ev_bind0 (spec_size _ _ _ _ _) ?_)))))))
  refine Ev.step (fun k => by rw [laws_FnEmitted.j0]) (ev_neg (by simp) (ev_ite (fun _ => ev_some rfl) (fun c0 => ?_)))
  rcases hg' with rfl | ⟨g1, g2, g3, g4⟩
  · exact absurd rfl c0
  · refine ev_bind0 (impl_size _ _ _ _ _) (ev_pos (by rw [esz_of x0 ⟨g3, g4⟩]; exact g1) ?_)
    exact loop_l fr l3 r ⟨h2', h3'⟩ (by rw [h4']; decide) hr (by rw [g1]; exact g2) r.length 0 (by omega)
end Go.Proofs.Ytonlhgkpmjefkaa.Pure
