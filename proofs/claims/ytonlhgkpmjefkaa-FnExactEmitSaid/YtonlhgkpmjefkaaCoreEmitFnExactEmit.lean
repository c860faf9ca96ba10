/- What a place is emitted as: the reference and the program put the same steps, for all rows of rooms and of first steps of up to a million. -/
import Derived.Test.YtonlhgkpmjefkaaXFnExactEmitx15
import Derived.Test.YtonlhgkpmjefkaaCoreInsFnExactEmit
namespace Go.Proofs.Ytonlhgkpmjefkaa.CoreEmitFnExactEmit
open Go.RowKit Go.Proofs.Ytonlhgkpmjefkaa.XFnExactEmit Go.Proofs.Ytonlhgkpmjefkaa.Lib Go.Proofs.Ytonlhgkpmjefkaa.CoreInsFnExactEmit Go.Proofs.YtonlhgkpmjefkaaW.PrintWords Go.Proofs.YtonlhgkpmjefkaaW.PrintLast Go.Proofs.YtonlhgkpmjefkaaW.PrintMore
set_option linter.unusedVariables false
set_option linter.unusedSimpArgs false

theorem ev_five {α : Type} {g : Nat → Option α} {r : α} (h : ∀ k, g (k + 5) = some r) : Ev g r := ⟨5, fun n hn => by obtain ⟨m, rfl⟩ : ∃ m, n = m + 5 := ⟨n - 5, by omega⟩; exact h m⟩
/-! ### rooms -/
def sumB (l : List Int) : Nat → Int
  | 0 => 0
  | n + 1 => sumB l n + rd l (n : Int) + 4
def RoomOk (c : Int) : Prop := 1 ≤ c ∧ c ≤ 4
instance (c : Int) : Decidable (RoomOk c) := by unfold RoomOk; infer_instance
theorem sumB_bd (l : List Int) : ∀ n : Nat, (∀ j : Nat, j < n → RoomOk (rd l (j : Int))) → 5 * (n : Int) ≤ sumB l n ∧ sumB l n ≤ 8 * (n : Int) := by
  intro n
  induction n with
  | zero => intro _; exact ⟨Int.le_refl _, Int.le_refl _⟩
  | succ n ih =>
    intro h
    have h1 := ih (fun j hj => h j (by omega))
    have h2 := h n (by omega)
    unfold RoomOk at h2
    simp only [sumB]
    omega
theorem capsOk_l (l : List Int) (hl : l.length ≤ 1048576) : ∀ (n i : Nat), i + n = l.length → (∀ j : Nat, j < i → RoomOk (rd l (j : Int))) → ∃ b, Ev (fun k => impl_capsOk.l0 k l (l.length : Int) (i : Int)) b ∧ (b = true ↔ ∀ j : Nat, j < l.length → RoomOk (rd l (j : Int))) := by
  intro n
  induction n with
  | zero =>
    intro i hi h
    refine ⟨true, Ev.step (fun k => by rw [impl_capsOk.l0]) ?_, ⟨fun _ j hj => h j (by omega), fun _ => rfl⟩⟩
    exact ev_neg (by omega) (ev_some rfl)
  | succ n ih =>
    intro i hi h
    by_cases c : RoomOk (rd l (i : Int))
    · obtain ⟨b, h1, h2⟩ := ih (i + 1) (by omega) (fun j hj => by
        by_cases e : j = i
        · subst e
          exact c
        · exact h j (by omega))
      refine ⟨b, Ev.step (fun k => by rw [impl_capsOk.l0]) ?_, h2⟩
      rw [w64_nat (by omega)]
      exact ev_pos (by omega) (ev_pos (by omega) (ev_pos (by omega) (ev_bind0 (within_eq _ _ _) (ev_pos (decide_eq_true c) h1))))
    · refine ⟨false, Ev.step (fun k => by rw [impl_capsOk.l0]) ?_, ⟨fun e => (by cases e), fun e => absurd (e i (by omega)) c⟩⟩
      exact ev_pos (by omega) (ev_pos (by omega) (ev_pos (by omega) (ev_bind0 (within_eq _ _ _) (ev_neg (by rw [decide_eq_true_iff]; exact c) (ev_some rfl)))))
theorem l9Base_l (l : List Int) (hl : l.length ≤ 24) (m : Nat) (hm : m ≤ l.length) (h : ∀ j : Nat, j < m → RoomOk (rd l (j : Int))) : ∀ (n i : Nat), i + n = m → Ev (fun k => spec_l9Base.l0 k l (m : Int) (sumB l i) (i : Int)) (sumB l m) := by
  intro n
  induction n with
  | zero =>
    intro i hi
    rw [show i = m by omega]
    exact Ev.step (fun k => by rw [spec_l9Base.l0]) (ev_neg (by omega) (ev_some rfl))
  | succ n ih =>
    intro i hi
    have h1 := sumB_bd l i (fun j hj => h j (by omega))
    have h2 := h i (by omega)
    unfold RoomOk at h2
    have h3 := ih (i + 1) (by omega)
    refine Ev.step (fun k => by rw [spec_l9Base.l0]) ?_
    rw [w64_nat (by omega), w64 (x := sumB l i + rd l (i : Int)) (by omega) (by omega), w64 (x := sumB l i + rd l (i : Int) + 4) (by omega) (by omega)]
    exact ev_pos (by omega) (ev_pos (by omega) (ev_pos (by omega) h3))
theorem right_l (l : List Int) (hl : l.length ≤ 3) : ∀ (n i : Nat), i + n = l.length → (∀ j : Nat, j < i → RoomOk (rd l (j : Int))) → ∃ b, Ev (fun k => spec_l9Right.l0 k l (i : Int)) b ∧ (b = true ↔ ∀ j : Nat, j < l.length → RoomOk (rd l (j : Int))) := by
  intro n
  induction n with
  | zero =>
    intro i hi h
    have hs := sumB_bd l l.length (fun j hj => h j (by omega))
    refine ⟨true, Ev.step (fun k => by rw [spec_l9Right.l0]) ?_, ⟨fun _ j hj => h j (by omega), fun _ => rfl⟩⟩
    refine ev_neg (by omega) (ev_pos (by omega) (Ev.bind (l9Base_l l (by omega) l.length (Nat.le_refl _) (fun j hj => h j (by omega)) l.length 0 (by omega)) (ev_some ?_)))
    rw [decide_eq_true_iff]
    omega
  | succ n ih =>
    intro i hi h
    by_cases c : RoomOk (rd l (i : Int))
    · obtain ⟨b, h1, h2⟩ := ih (i + 1) (by omega) (fun j hj => by
        by_cases e : j = i
        · subst e
          exact c
        · exact h j (by omega))
      refine ⟨b, Ev.step (fun k => by rw [spec_l9Right.l0]) ?_, h2⟩
      rw [w64_nat (by omega)]
      exact ev_pos (by omega) (ev_pos (by omega) (ev_bind0 (in_eq _ _ _) (ev_pos (decide_eq_true c) h1)))
    · refine ⟨false, Ev.step (fun k => by rw [spec_l9Right.l0]) ?_, ⟨fun e => (by cases e), fun e => absurd (e i (by omega)) c⟩⟩
      exact ev_pos (by omega) (ev_pos (by omega) (ev_bind0 (in_eq _ _ _) (ev_neg (by rw [decide_eq_true_iff]; exact c) (ev_some rfl))))
theorem base_l (l : List Int) (hl : l.length ≤ 3) (m : Nat) (hm : m ≤ l.length) (h : ∀ j : Nat, j < l.length → RoomOk (rd l (j : Int))) : ∀ (n i : Nat), i + n = l.length → Ev (fun k => impl_Base.l0 k (m : Int) (sumB l (min i m)) (sumB l i) l (l.length : Int) (i : Int)) (sumB l m) := by
  intro n
  induction n with
  | zero =>
    intro i hi
    have hs := sumB_bd l l.length h
    rw [show i = l.length by omega, show min l.length m = m by omega]
    exact Ev.step (fun k => by rw [impl_Base.l0]) (ev_neg (by omega) (ev_neg (by omega) (ev_some rfl)))
  | succ n ih =>
    intro i hi
    have h1 := sumB_bd l i (fun j hj => h j (by omega))
    have h2 := h i (by omega)
    unfold RoomOk at h2
    have h3 := ih (i + 1) (by omega)
    refine Ev.step (fun k => by rw [impl_Base.l0]) ?_
    rw [w64_nat (by omega), w64 (x := rd l (i : Int) + 4) (by omega) (by omega), w64 (x := sumB l i + (rd l (i : Int) + 4)) (by omega) (by omega), show sumB l i + (rd l (i : Int) + 4) = sumB l (i + 1) from by simp only [sumB]; omega]
    refine ev_pos (by omega) (ev_pos (by omega) (ev_pos (by omega) ?_))
    by_cases c : i < m
    · rw [show min (i + 1) m = i + 1 by omega] at h3
      rw [show min i m = i by omega, w64 (x := sumB l i + (rd l (i : Int) + 4)) (by omega) (by omega), show sumB l i + (rd l (i : Int) + 4) = sumB l (i + 1) from by simp only [sumB]; omega]
      exact ev_pos (by omega) h3
    · rw [show min (i + 1) m = m by omega] at h3
      rw [show min i m = m by omega]
      exact ev_neg (by omega) h3
theorem base_both (l : List Int) (hl : l.length ≤ 3) (n : Int) (h0 : 0 ≤ n) (h1 : n < (l.length : Int)) : ∃ b, Ev (fun k => spec_Base.f k l n) b ∧ Ev (fun k => impl_Base.f k l n) b := by
  obtain ⟨m, rfl⟩ : ∃ m : Nat, n = (m : Int) := ⟨n.toNat, by omega⟩
  obtain ⟨b, r1, r2⟩ := right_l l hl l.length 0 (by omega) (fun j hj => absurd hj (Nat.not_lt_zero _))
  obtain ⟨b', c1, c2⟩ := capsOk_l l (by omega) l.length 0 (by omega) (fun j hj => absurd hj (Nat.not_lt_zero _))
  have e : b = b' := by rw [Bool.eq_iff_iff, r2, c2]
  subst e
  have hin : decide (0 ≤ (m : Int) ∧ (m : Int) ≤ wrap64 ((l.length : Int) - 1)) = true := by
    rw [w64 (by omega) (by omega), decide_eq_true_iff]
    omega
  unfold spec_Base.f impl_Base.f
  cases b with
  | true =>
    have h := r2.1 rfl
    refine ⟨sumB l m, ?_, ?_⟩
    · refine Ev.bind r1 (ev_pos rfl (ev_bind0 (in_eq _ _ _) (ev_pos hin ?_)))
      exact Ev.bind (l9Base_l l (by omega) m (by omega) (fun j hj => h j (by omega)) m 0 (by omega)) (ev_some rfl)
    · refine ev_bind0 (within_eq _ _ _) (ev_pos hin (Ev.bind c1 (Ev.step (fun k => by rw [impl_Base.j0]) (ev_neg (by decide) ?_))))
      exact base_l l hl m (by omega) h l.length 0 (by omega)
  | false =>
    refine ⟨-1, Ev.bind r1 (ev_neg (by decide) (ev_some rfl)), ?_⟩
    refine ev_bind0 (within_eq _ _ _) (ev_pos hin (Ev.bind c1 (Ev.step (fun k => by rw [impl_Base.j0]) ?_)))
    exact ev_pos (by decide) (ev_some rfl)
/-! ### the steps -/
theorem ww (a b : Int) : wrap64 (wrap64 a + b) = wrap64 (a + b) := by unfold wrap64; omega
theorem lock_eq (b fr : Int) (hf : wrap64 fr = fr) : spec_l10Lock.f b fr = some (emLock fr b) := by
  simp [spec_l10Lock.f, spec_l10Set.f, spec_l10Zero.f, spec_l10Jump.f, emLock, hf]
theorem let_eq (b : Int) : spec_l10Let.f b = some (emLet b) := by
  simp [spec_l10Let.f, spec_l10Set.f, emLet]
theorem shut_eq (b fr : Int) : spec_l10Shut.f b fr = some (emOpen fr b) := by
  simp [spec_l10Shut.f, let_eq, spec_l10Load.f, spec_l10Zero.f, emOpen, emLet]
theorem sendT_eq (x1 x2 x3 x4 b c fr : Int) (hf : wrap64 fr = fr) : spec_l10Send.f 7 x1 x2 x3 x4 b c fr = some (emLock fr b ++ em_sendTL x1 x2 fr b c) := by
  simp [spec_l10Send.f, lock_eq b fr hf, let_eq, shut_eq, spec_l4Bit.f, spec_EmitSize.f, spec_l10Set.f, spec_l10Zero.f, spec_l10Jump.f, spec_l10Load.f, spec_l10Store.f, spec_l10Three.f, emLock, emLet, emOpen, em_sendTL, ww, Int.add_assoc]
theorem sendF_eq (x1 x2 x3 x4 b c fr : Int) (hf : wrap64 fr = fr) : spec_l10Send.f 5 x1 x2 x3 x4 b c fr = some (emLock fr b ++ em_sendFL x1 x2 fr b c) := by
  simp [spec_l10Send.f, lock_eq b fr hf, let_eq, shut_eq, spec_l4Bit.f, spec_EmitSize.f, spec_l10Set.f, spec_l10Zero.f, spec_l10Jump.f, spec_l10Load.f, spec_l10Store.f, spec_l10Three.f, emLock, emLet, emOpen, em_sendFL, ww, hf]
theorem takeT_eq (x1 x2 x3 x4 b c fr : Int) (hf : wrap64 fr = fr) : spec_l10Take.f 8 x1 x2 x3 x4 b c fr = some (emLock fr b ++ em_takeTL x1 x3 fr b c) := by
  simp [spec_l10Take.f, lock_eq b fr hf, let_eq, shut_eq, spec_l4Bit.f, spec_EmitSize.f, spec_l10Set.f, spec_l10Zero.f, spec_l10Jump.f, spec_l10Load.f, spec_l10Store.f, spec_l10Three.f, emLock, emLet, emOpen, em_takeTL, ww]
theorem takeF_eq (x1 x2 x3 x4 b c fr : Int) (hf : wrap64 fr = fr) : spec_l10Take.f 6 x1 x2 x3 x4 b c fr = some (emLock fr b ++ em_takeFL x1 x3 fr b c) := by
  simp [spec_l10Take.f, lock_eq b fr hf, let_eq, shut_eq, spec_l4Bit.f, spec_EmitSize.f, spec_l10Set.f, spec_l10Zero.f, spec_l10Jump.f, spec_l10Load.f, spec_l10Store.f, spec_l10Three.f, emLock, emLet, emOpen, em_takeFL, ww, hf]
theorem close_eq (b fr : Int) (hf : wrap64 fr = fr) : spec_l10Close.f b fr = some (emLock fr b ++ emClose fr b) := by
  simp [spec_l10Close.f, lock_eq b fr hf, let_eq, shut_eq, spec_l10Set.f, spec_l10Store.f, emLock, emLet, emOpen, emClose]
theorem part_len (x0 x1 x2 x3 fr b c : Int) : (emLock fr b ++ emPart x0 x1 x2 x3 fr b c).length ≤ 100 := by
  unfold emPart
  repeat' split
  all_goals simp [emLock, em_sendTL, em_sendFL, em_takeTL, em_takeFL, emClose, emOpen, emLet]
theorem ofChan_eq (x0 : Int) : impl_ofChan.f x0 = some (decide (5 ≤ x0 ∧ x0 ≤ 9)) := by
  unfold impl_ofChan.f
  rw [within_eq]
  rfl
set_option maxHeartbeats 2000000 in
theorem emit_both (l0 l3 : List Int) (h0 : l0.length ≤ 1048576) (h3 : l3.length ≤ 1048576) (x0 x1 x2 x3 x4 fr : Int) (hf : wrap64 fr = fr) : ∃ r : List S46, r.length ≤ 100 ∧ Ev (fun k => spec_Emit.f k l0 x0 x1 x2 x3 x4 fr l3) r ∧ Ev (fun k => impl_Emit.f k l0 x0 x1 x2 x3 x4 fr l3) r := by
  have hs : Ev (fun k => spec_InsOk.f k x0 x1 x2 x3 x4 (l3.length : Int) (l0.length : Int)) (decide (InsGood x0 x1 x2 x3 x4 (l3.length : Int) (l0.length : Int))) := ev_five (fun k => spec_ins x0 x1 x2 x3 x4 (l3.length : Int) (l0.length : Int) k)
  have hi : Ev (fun k => impl_InsOk.f k x0 x1 x2 x3 x4 (l3.length : Int) (l0.length : Int)) (decide (InsGood x0 x1 x2 x3 x4 (l3.length : Int) (l0.length : Int))) := ev_five (fun k => impl_ins x0 x1 x2 x3 x4 (l3.length : Int) (l0.length : Int) (by omega) (by omega) k)
  unfold spec_Emit.f impl_Emit.f
  by_cases hg : InsGood x0 x1 x2 x3 x4 (l3.length : Int) (l0.length : Int)
  · rw [decide_eq_true hg] at hs hi
    have hc := hg.1
    have hop := hg.2.2.2.2
    by_cases ho : 5 ≤ x0 ∧ x0 ≤ 9
    · have hn : 0 ≤ x4 ∧ x4 < (l0.length : Int) := by omega
      obtain ⟨b, b1, b2⟩ := base_both l0 (by omega) x4 hn.1 hn.2
      have oc : impl_ofChan.f x0 = some true := by rw [ofChan_eq, decide_eq_true ho]
      by_cases c : b < 0
      · refine ⟨[], by simp, ?_, ?_⟩
        · refine ev_bind0 rfl (Ev.bind hs (ev_pos rfl (ev_neg (by omega) (ev_neg (by omega) (ev_neg (by omega) (ev_neg (by omega) (ev_neg (by omega) (ev_neg (by omega) (ev_neg (by omega) (ev_neg (by omega) (Ev.bind b1 (ev_pos c (ev_some rfl)))))))))))))
        · exact Ev.bind hi (ev_pos rfl (ev_bind0 oc (ev_pos rfl (Ev.bind b2 (ev_pos c (ev_some rfl))))))
      · refine ⟨emLock fr b ++ emPart x0 x1 x2 x3 fr b (rd l0 x4), part_len _ _ _ _ _ _ _, ?_, ?_⟩
        · refine ev_bind0 rfl (Ev.bind hs (ev_pos rfl (ev_neg (by omega) (ev_neg (by omega) (ev_neg (by omega) (ev_neg (by omega) (ev_neg (by omega) (ev_neg (by omega) (ev_neg (by omega) (ev_neg (by omega) (Ev.bind b1 (ev_neg c ?_))))))))))))
          have go : ∀ z, z = (x0 == 5 || x0 == 7) → Ev (fun k => spec_Emit.j0 k l0 fr b x0 z x0 x1 x2 x3 x4) (emLock fr b ++ emPart x0 x1 x2 x3 fr b (rd l0 x4)) := by
            intro z hz
            refine Ev.step (fun k => by rw [spec_Emit.j0]) ?_
            unfold emPart
            by_cases o5 : x0 = 5
            · subst o5
              rw [if_pos rfl]
              exact ev_pos (by rw [hz]; rfl) (ev_pos hn.1 (ev_pos hn.2 (ev_bind0 (sendF_eq _ _ _ _ _ _ _ hf) (ev_some rfl))))
            rw [if_neg o5]
            by_cases o7 : x0 = 7
            · subst o7
              rw [if_pos rfl]
              exact ev_pos (by rw [hz]; rfl) (ev_pos hn.1 (ev_pos hn.2 (ev_bind0 (sendT_eq _ _ _ _ _ _ _ hf) (ev_some rfl))))
            rw [if_neg o7]
            refine ev_neg (by rw [hz]; simp [o5, o7]) ?_
            by_cases o6 : x0 = 6
            · subst o6
              rw [if_pos rfl]
              refine ev_pos rfl (Ev.step (fun k => by rw [spec_Emit.j1]) ?_)
              exact ev_pos rfl (ev_pos hn.1 (ev_pos hn.2 (ev_bind0 (takeF_eq _ _ _ _ _ _ _ hf) (ev_some rfl))))
            rw [if_neg o6]
            refine ev_neg o6 (Ev.step (fun k => by rw [spec_Emit.j1]) ?_)
            by_cases o8 : x0 = 8
            · subst o8
              rw [if_pos rfl]
              exact ev_pos rfl (ev_pos hn.1 (ev_pos hn.2 (ev_bind0 (takeT_eq _ _ _ _ _ _ _ hf) (ev_some rfl))))
            rw [if_neg o8]
            exact ev_neg (by simpa using o8) (ev_bind0 (close_eq _ _ hf) (ev_some rfl))
          by_cases o5 : x0 = 5
          · exact ev_pos o5 (go _ (by simp [o5]))
          · exact ev_neg o5 (go _ (by simp [o5]))
        · exact Ev.bind hi (ev_pos rfl (ev_bind0 oc (ev_pos rfl (Ev.bind b2 (ev_neg c (ev_pos hn (ev_some rfl)))))))
    · have oc : impl_ofChan.f x0 = some false := by rw [ofChan_eq, decide_eq_false ho]
      have key : ∀ s : Int × Int × Int × Int × Int, impl_single.f x0 x1 x2 x3 x4 l3 = some s → Ev (fun k => spec_Emit.f k l0 x0 x1 x2 x3 x4 fr l3) [(⟨s.1, s.2.1, s.2.2.1, s.2.2.2.1, s.2.2.2.2⟩ : S46)] → ∃ r : List S46, r.length ≤ 100 ∧ Ev (fun k => spec_Emit.f k l0 x0 x1 x2 x3 x4 fr l3) r ∧ Ev (fun k => (impl_InsOk.f k x0 x1 x2 x3 x4 (l3.length : Int) (l0.length : Int)).bind fun t => if t = true then (impl_ofChan.f x0).bind fun u => if u = true then (impl_Base.f k l0 x4).bind fun b => if b < 0 then some [] else if 0 ≤ x4 ∧ x4 < (l0.length : Int) then some (emLock fr b ++ emPart x0 x1 x2 x3 fr b (rd l0 x4)) else none else (impl_single.f x0 x1 x2 x3 x4 l3).bind fun s => some [(⟨s.1, s.2.1, s.2.2.1, s.2.2.2.1, s.2.2.2.2⟩ : S46)] else some []) r :=
        fun s e h => ⟨_, by simp, h, Ev.bind hi (ev_pos rfl (ev_bind0 oc (ev_neg (by decide) (ev_bind0 e (ev_some rfl)))))⟩
      unfold spec_Emit.f at key
      obtain rfl | rfl | rfl | rfl | rfl | rfl | rfl | rfl : x0 = 1 ∨ x0 = 2 ∨ x0 = 3 ∨ x0 = 4 ∨ x0 = 10 ∨ x0 = 11 ∨ x0 = 12 ∨ x0 = 13 := by omega
      · exact key (1, x1, 0, 0, x4) rfl (ev_bind0 rfl (Ev.bind hs (ev_pos rfl (ev_pos rfl (ev_bind0 rfl (ev_some rfl))))))
      · exact key (2, x1, x2, x3, 0) rfl (ev_bind0 rfl (Ev.bind hs (ev_pos rfl (ev_neg (by decide) (ev_pos rfl (ev_bind0 rfl (ev_some rfl)))))))
      · exact key (3, x1, x2, x3, 0) rfl (ev_bind0 rfl (Ev.bind hs (ev_pos rfl (ev_neg (by decide) (ev_neg (by decide) (ev_pos rfl (ev_bind0 rfl (ev_some rfl))))))))
      · exact key (4, x1, x2, x3, 0) rfl (ev_bind0 rfl (Ev.bind hs (ev_pos rfl (ev_neg (by decide) (ev_neg (by decide) (ev_neg (by decide) (ev_pos rfl (ev_bind0 rfl (ev_some rfl)))))))))
      · exact key (9, 0, x2, 0, 0) rfl (ev_bind0 rfl (Ev.bind hs (ev_pos rfl (ev_neg (by decide) (ev_neg (by decide) (ev_neg (by decide) (ev_neg (by decide) (ev_pos rfl (ev_some rfl)))))))))
      · have hn : 0 ≤ x4 ∧ x4 < (l3.length : Int) := by omega
        refine key (10, 0, 0, 0, rd l3 x4) ?_ (ev_bind0 rfl (Ev.bind hs (ev_pos rfl (ev_neg (by decide) (ev_neg (by decide) (ev_neg (by decide) (ev_neg (by decide) (ev_neg (by decide) (ev_pos rfl (ev_pos hn.1 (ev_pos hn.2 (ev_bind0 rfl (ev_some rfl))))))))))))) 
        simp [impl_single.f, hn.1, hn.2]
      · have hn : 0 ≤ x4 ∧ x4 < (l3.length : Int) := by omega
        refine key (11, 0, x2, 0, rd l3 x4) ?_ (ev_bind0 rfl (Ev.bind hs (ev_pos rfl (ev_neg (by decide) (ev_neg (by decide) (ev_neg (by decide) (ev_neg (by decide) (ev_neg (by decide) (ev_neg (by decide) (ev_pos rfl (ev_pos hn.1 (ev_pos hn.2 (ev_bind0 rfl (ev_some rfl))))))))))))))
        simp [impl_single.f, hn.1, hn.2]
      · exact key (12, 0, 0, 0, 0) rfl (ev_bind0 rfl (Ev.bind hs (ev_pos rfl (ev_neg (by decide) (ev_neg (by decide) (ev_neg (by decide) (ev_neg (by decide) (ev_neg (by decide) (ev_neg (by decide) (ev_neg (by decide) (ev_pos rfl (ev_some rfl))))))))))))
  · rw [decide_eq_false hg] at hs hi
    exact ⟨[], by simp, ev_bind0 rfl (Ev.bind hs (ev_neg (by decide) (ev_some rfl))), Ev.bind hi (ev_neg (by decide) (ev_some rfl))⟩
end Go.Proofs.Ytonlhgkpmjefkaa.CoreEmitFnExactEmit
