/- What a place is emitted as: the reference and the program put the same steps; they are as many as EmitSize tells, each is well formed, and each jump goes within them or to a first step. -/
import Derived.Test.YtonlhgkpmjefkaaXFnEmittedx20
import Derived.Test.YtonlhgkpmjefkaaCoreInsFnEmitted
namespace Go.Proofs.Ytonlhgkpmjefkaa.CoreEmittedFnEmitted
open Go.RowKit Go.Proofs.Ytonlhgkpmjefkaa.XFnEmitted Go.Proofs.Ytonlhgkpmjefkaa.Lib Go.Proofs.Ytonlhgkpmjefkaa.CoreInsFnEmitted Go.Proofs.YtonlhgkpmjefkaaW.PrintWords Go.Proofs.YtonlhgkpmjefkaaW.PrintLast Go.Proofs.YtonlhgkpmjefkaaW.PrintMore
set_option linter.unusedVariables false
set_option linter.unusedSimpArgs false

theorem ev_five {α : Type} {g : Nat → Option α} {r : α} (h : ∀ k, g (k + 5) = some r) : Ev g r := ⟨5, fun n hn => by obtain ⟨m, rfl⟩ : ∃ m, n = m + 5 := ⟨n - 5, by omega⟩; exact h m⟩
/-! ### rooms -/
def sumB (l : List Int) : Nat → Int
  | 0 => 0
  | n + 1 => sumB l n + rd l (n : Int) + 4
def RoomOk (c : Int) : Prop := 1 ≤ c ∧ c ≤ 4
instance (c : Int) : Decidable (RoomOk c) := by unfold RoomOk; infer_instance
theorem sumB_bd (l : List Int) : ∀ n : Nat, (∀ j : Nat, j < n → RoomOk (rd l (j : Int))) → 5 * (n : Int) ≤ sumB l n ∧ sumB l n ≤ 8 * (n : Int) := by
  intro n
  induction n with
  | zero => intro _; exact ⟨Int.le_refl _, Int.le_refl _⟩
  | succ n ih =>
    intro h
    have h1 := ih (fun j hj => h j (by omega))
    have h2 := h n (by omega)
    unfold RoomOk at h2
    simp only [sumB]
    omega
theorem capsOk_l (l : List Int) (hl : l.length ≤ 1048576) : ∀ (n i : Nat), i + n = l.length → (∀ j : Nat, j < i → RoomOk (rd l (j : Int))) → ∃ b, Ev (fun k => impl_capsOk.l0 k l (l.length : Int) (i : Int)) b ∧ (b = true ↔ ∀ j : Nat, j < l.length → RoomOk (rd l (j : Int))) := by
  intro n
  induction n with
  | zero =>
    intro i hi h
    refine ⟨true, Ev.step (fun k => by rw [impl_capsOk.l0]) ?_, ⟨fun _ j hj => h j (by omega), fun _ => rfl⟩⟩
    exact ev_neg (by omega) (ev_some rfl)
  | succ n ih =>
    intro i hi h
    by_cases c : RoomOk (rd l (i : Int))
    · obtain ⟨b, h1, h2⟩ := ih (i + 1) (by omega) (fun j hj => by
        by_cases e : j = i
        · subst e
          exact c
        · exact h j (by omega))
      refine ⟨b, Ev.step (fun k => by rw [impl_capsOk.l0]) ?_, h2⟩
      rw [w64_nat (by omega)]
      exact ev_pos (by omega) (ev_pos (by omega) (ev_pos (by omega) (ev_bind0 (within_eq _ _ _) (ev_pos (decide_eq_true c) h1))))
    · refine ⟨false, Ev.step (fun k => by rw [impl_capsOk.l0]) ?_, ⟨fun e => (by cases e), fun e => absurd (e i (by omega)) c⟩⟩
      exact ev_pos (by omega) (ev_pos (by omega) (ev_pos (by omega) (ev_bind0 (within_eq _ _ _) (ev_neg (by rw [decide_eq_true_iff]; exact c) (ev_some rfl)))))
theorem l9Base_l (l : List Int) (hl : l.length ≤ 24) (m : Nat) (hm : m ≤ l.length) (h : ∀ j : Nat, j < m → RoomOk (rd l (j : Int))) : ∀ (n i : Nat), i + n = m → Ev (fun k => spec_l9Base.l0 k l (m : Int) (sumB l i) (i : Int)) (sumB l m) := by
  intro n
  induction n with
  | zero =>
    intro i hi
    rw [show i = m by omega]
    exact Ev.step (fun k => by rw [spec_l9Base.l0]) (ev_neg (by omega) (ev_some rfl))
  | succ n ih =>
    intro i hi
    have h1 := sumB_bd l i (fun j hj => h j (by omega))
    have h2 := h i (by omega)
    unfold RoomOk at h2
    have h3 := ih (i + 1) (by omega)
    refine Ev.step (fun k => by rw [spec_l9Base.l0]) ?_
    rw [w64_nat (by omega), w64 (x := sumB l i + rd l (i : Int)) (by omega) (by omega), w64 (x := sumB l i + rd l (i : Int) + 4) (by omega) (by omega)]
    exact ev_pos (by omega) (ev_pos (by omega) (ev_pos (by omega) h3))
theorem right_l (l : List Int) (hl : l.length ≤ 3) : ∀ (n i : Nat), i + n = l.length → (∀ j : Nat, j < i → RoomOk (rd l (j : Int))) → ∃ b, Ev (fun k => spec_l9Right.l0 k l (i : Int)) b ∧ (b = true ↔ ∀ j : Nat, j < l.length → RoomOk (rd l (j : Int))) := by
  intro n
  induction n with
  | zero =>
    intro i hi h
    have hs := sumB_bd l l.length (fun j hj => h j (by omega))
    refine ⟨true, Ev.step (fun k => by rw [spec_l9Right.l0]) ?_, ⟨fun _ j hj => h j (by omega), fun _ => rfl⟩⟩
    refine ev_neg (by omega) (ev_pos (by omega) (Ev.bind (l9Base_l l (by omega) l.length (Nat.le_refl _) (fun j hj => h j (by omega)) l.length 0 (by omega)) (ev_some ?_)))
    rw [decide_eq_true_iff]
    omega
  | succ n ih =>
    intro i hi h
    by_cases c : RoomOk (rd l (i : Int))
    · obtain ⟨b, h1, h2⟩ := ih (i + 1) (by omega) (fun j hj => by
        by_cases e : j = i
        · subst e
          exact c
        · exact h j (by omega))
      refine ⟨b, Ev.step (fun k => by rw [spec_l9Right.l0]) ?_, h2⟩
      rw [w64_nat (by omega)]
      exact ev_pos (by omega) (ev_pos (by omega) (ev_bind0 (in_eq _ _ _) (ev_pos (decide_eq_true c) h1)))
    · refine ⟨false, Ev.step (fun k => by rw [spec_l9Right.l0]) ?_, ⟨fun e => (by cases e), fun e => absurd (e i (by omega)) c⟩⟩
      exact ev_pos (by omega) (ev_pos (by omega) (ev_bind0 (in_eq _ _ _) (ev_neg (by rw [decide_eq_true_iff]; exact c) (ev_some rfl))))
theorem base_l (l : List Int) (hl : l.length ≤ 3) (m : Nat) (hm : m ≤ l.length) (h : ∀ j : Nat, j < l.length → RoomOk (rd l (j : Int))) : ∀ (n i : Nat), i + n = l.length → Ev (fun k => impl_Base.l0 k (m : Int) (sumB l (min i m)) (sumB l i) l (l.length : Int) (i : Int)) (sumB l m) := by
  intro n
  induction n with
  | zero =>
    intro i hi
    have hs := sumB_bd l l.length h
    rw [show i = l.length by omega, show min l.length m = m by omega]
    exact Ev.step (fun k => by rw [impl_Base.l0]) (ev_neg (by omega) (ev_neg (by omega) (ev_some rfl)))
  | succ n ih =>
    intro i hi
    have h1 := sumB_bd l i (fun j hj => h j (by omega))
    have h2 := h i (by omega)
    unfold RoomOk at h2
    have h3 := ih (i + 1) (by omega)
    refine Ev.step (fun k => by rw [impl_Base.l0]) ?_
    rw [w64_nat (by omega), w64 (x := rd l (i : Int) + 4) (by omega) (by omega), w64 (x := sumB l i + (rd l (i : Int) + 4)) (by omega) (by omega), show sumB l i + (rd l (i : Int) + 4) = sumB l (i + 1) from by simp only [sumB]; omega]
    refine ev_pos (by omega) (ev_pos (by omega) (ev_pos (by omega) ?_))
    by_cases c : i < m
    · rw [show min (i + 1) m = i + 1 by omega] at h3
      rw [show min i m = i by omega, w64 (x := sumB l i + (rd l (i : Int) + 4)) (by omega) (by omega), show sumB l i + (rd l (i : Int) + 4) = sumB l (i + 1) from by simp only [sumB]; omega]
      exact ev_pos (by omega) h3
    · rw [show min (i + 1) m = m by omega] at h3
      rw [show min i m = m by omega]
      exact ev_neg (by omega) h3
theorem base_both (l : List Int) (hl : l.length ≤ 3) (n : Int) (h0 : 0 ≤ n) (h1 : n < (l.length : Int)) : ∃ b, Ev (fun k => spec_Base.f k l n) b ∧ Ev (fun k => impl_Base.f k l n) b ∧ b ≤ 16 ∧ (0 ≤ b → RoomOk (rd l n)) := by
  obtain ⟨m, rfl⟩ : ∃ m : Nat, n = (m : Int) := ⟨n.toNat, by omega⟩
  obtain ⟨b, r1, r2⟩ := right_l l hl l.length 0 (by omega) (fun j hj => absurd hj (Nat.not_lt_zero _))
  obtain ⟨b', c1, c2⟩ := capsOk_l l (by omega) l.length 0 (by omega) (fun j hj => absurd hj (Nat.not_lt_zero _))
  have e : b = b' := by rw [Bool.eq_iff_iff, r2, c2]
  subst e
  have hin : decide (0 ≤ (m : Int) ∧ (m : Int) ≤ wrap64 ((l.length : Int) - 1)) = true := by
    rw [w64 (by omega) (by omega), decide_eq_true_iff]
    omega
  unfold spec_Base.f impl_Base.f
  cases b with
  | true =>
    have h := r2.1 rfl
    refine ⟨sumB l m, ?_, ?_, by have := sumB_bd l m (fun j hj => h j (by omega)); omega, fun _ => h m (by omega)⟩
    · refine Ev.bind r1 (ev_pos rfl (ev_bind0 (in_eq _ _ _) (ev_pos hin ?_)))
      exact Ev.bind (l9Base_l l (by omega) m (by omega) (fun j hj => h j (by omega)) m 0 (by omega)) (ev_some rfl)
    · refine ev_bind0 (within_eq _ _ _) (ev_pos hin (Ev.bind c1 (Ev.step (fun k => by rw [impl_Base.j0]) (ev_neg (by decide) ?_))))
      exact base_l l hl m (by omega) h l.length 0 (by omega)
  | false =>
    refine ⟨-1, Ev.bind r1 (ev_neg (by decide) (ev_some rfl)), ?_, by decide, fun h => absurd h (by decide)⟩
    refine ev_bind0 (within_eq _ _ _) (ev_pos hin (Ev.bind c1 (Ev.step (fun k => by rw [impl_Base.j0]) ?_)))
    exact ev_pos (by decide) (ev_some rfl)
/-! ### the steps -/
theorem ww (a b : Int) : wrap64 (wrap64 a + b) = wrap64 (a + b) := by unfold wrap64; omega
theorem w_w (a : Int) : wrap64 (wrap64 a) = wrap64 a := by unfold wrap64; omega
theorem lock_eq (b fr : Int) (hf : wrap64 fr = fr) : spec_l10Lock.f b fr = some (emLock fr b) := by
  simp [spec_l10Lock.f, spec_l10Set.f, spec_l10Zero.f, spec_l10Jump.f, emLock, hf]
theorem let_eq (b : Int) : spec_l10Let.f b = some (emLet b) := by
  simp [spec_l10Let.f, spec_l10Set.f, emLet]
theorem shut_eq (b fr : Int) : spec_l10Shut.f b fr = some (emOpen fr b) := by
  simp [spec_l10Shut.f, let_eq, spec_l10Load.f, spec_l10Zero.f, emOpen, emLet]
theorem sendT_eq (x1 x2 x3 x4 b c fr : Int) (hf : wrap64 fr = fr) : spec_l10Send.f 7 x1 x2 x3 x4 b c fr = some (emLock fr b ++ em_sendTL x1 x2 fr b c) := by
  simp [spec_l10Send.f, sp_sendTL, spLock, spShut, spLet, emLock, emLet, emOpen, em_sendTL, ww, hf, Int.add_assoc]
theorem sendF_eq (x1 x2 x3 x4 b c fr : Int) (hf : wrap64 fr = fr) : spec_l10Send.f 5 x1 x2 x3 x4 b c fr = some (emLock fr b ++ em_sendFL x1 x2 fr b c) := by
  simp [spec_l10Send.f, sp_sendFL, spLock, spShut, spLet, emLock, emLet, emOpen, em_sendFL, ww, w_w, hf]
theorem takeT_eq (x1 x2 x3 x4 b c fr : Int) (hf : wrap64 fr = fr) : spec_l10Take.f 8 x1 x2 x3 x4 b c fr = some (emLock fr b ++ em_takeTL x1 x3 fr b c) := by
  simp [spec_l10Take.f, sp_takeTL, spLock, spLet, emLock, emLet, em_takeTL, ww, hf]
theorem takeF_eq (x1 x2 x3 x4 b c fr : Int) (hf : wrap64 fr = fr) : spec_l10Take.f 6 x1 x2 x3 x4 b c fr = some (emLock fr b ++ em_takeFL x1 x3 fr b c) := by
  simp [spec_l10Take.f, sp_takeFL, spLock, spLet, emLock, emLet, em_takeFL, ww, hf]
theorem close_eq (b fr : Int) (hf : wrap64 fr = fr) : spec_l10Close.f b fr = some (emLock fr b ++ emClose fr b) := by
  simp [spec_l10Close.f, lock_eq b fr hf, let_eq, shut_eq, spec_l10Set.f, spec_l10Store.f, emLock, emLet, emOpen, emClose]
/-- A step that is well formed: its jump, if it is one, goes into fr .. fr + m or to one of the row's. -/
def JOk (fr m : Int) (l : List Int) (n : Int) : Prop := 0 ≤ n ∧ n < 800 ∧ ((fr ≤ n ∧ n ≤ fr + m) ∨ n ∈ l)
def StG (fr m : Int) (l : List Int) (s : S46) : Prop :=
  (s.f0 = 1 ∧ 0 ≤ s.f1 ∧ s.f1 ≤ 7 ∧ s.f2 = 0 ∧ s.f3 = 0 ∧ -1000000000 ≤ s.f4 ∧ s.f4 ≤ 1000000000) ∨
  ((s.f0 = 2 ∨ s.f0 = 3 ∨ s.f0 = 4) ∧ 0 ≤ s.f1 ∧ s.f1 ≤ 7 ∧ 0 ≤ s.f2 ∧ s.f2 ≤ 7 ∧ 0 ≤ s.f3 ∧ s.f3 ≤ 7 ∧ s.f4 = 0) ∨
  (s.f0 = 5 ∧ 0 ≤ s.f1 ∧ s.f1 ≤ 7 ∧ -1 ≤ s.f2 ∧ s.f2 ≤ 7 ∧ s.f3 = 0 ∧ 0 ≤ s.f4 ∧ s.f4 ≤ 23) ∨
  ((s.f0 = 6 ∨ s.f0 = 7) ∧ s.f1 = 0 ∧ -1 ≤ s.f2 ∧ s.f2 ≤ 7 ∧ 0 ≤ s.f3 ∧ s.f3 ≤ 7 ∧ 0 ≤ s.f4 ∧ s.f4 ≤ 23) ∨
  (s.f0 = 8 ∧ 0 ≤ s.f1 ∧ s.f1 ≤ 7 ∧ s.f2 = 0 ∧ 0 ≤ s.f3 ∧ s.f3 ≤ 7 ∧ 0 ≤ s.f4 ∧ s.f4 ≤ 23) ∨
  (s.f0 = 9 ∧ s.f1 = 0 ∧ 0 ≤ s.f2 ∧ s.f2 ≤ 7 ∧ s.f3 = 0 ∧ s.f4 = 0) ∨
  (s.f0 = 10 ∧ s.f1 = 0 ∧ s.f2 = 0 ∧ s.f3 = 0 ∧ JOk fr m l s.f4) ∨
  (s.f0 = 11 ∧ s.f1 = 0 ∧ 0 ≤ s.f2 ∧ s.f2 ≤ 7 ∧ s.f3 = 0 ∧ JOk fr m l s.f4) ∨
  ((s.f0 = 12 ∨ s.f0 = 13) ∧ s.f1 = 0 ∧ s.f2 = 0 ∧ s.f3 = 0 ∧ s.f4 = 0)
def Rg (r : Int) : Prop := 0 ≤ r ∧ r ≤ 7
def Rm (r : Int) : Prop := -1 ≤ r ∧ r ≤ 7
def Cl (n : Int) : Prop := 0 ≤ n ∧ n ≤ 23
instance (r : Int) : Decidable (Rg r) := by unfold Rg; infer_instance
instance (r : Int) : Decidable (Rm r) := by unfold Rm; infer_instance
theorem reg {r : Int} (h : 0 ≤ r ∧ r ≤ 3) : Rg r := ⟨h.1, Int.le_trans h.2 (by decide)⟩
theorem g1 {fr m : Int} {l : List Int} {r n : Int} (h : Rg r) (k : -1000000000 ≤ n ∧ n ≤ 1000000000) : StG fr m l ⟨1, r, 0, 0, n⟩ := .inl ⟨rfl, h.1, h.2, rfl, rfl, k.1, k.2⟩
theorem g2 {fr m : Int} {l : List Int} {o r a b : Int} (h : o = 2 ∨ o = 3 ∨ o = 4) (hr : Rg r) (ha : Rg a) (hb : Rg b) : StG fr m l ⟨o, r, a, b, 0⟩ := .inr (.inl ⟨h, hr.1, hr.2, ha.1, ha.2, hb.1, hb.2, rfl⟩)
theorem g5 {fr m : Int} {l : List Int} {r a n : Int} (hr : Rg r) (ha : Rm a) (hn : Cl n) : StG fr m l ⟨5, r, a, 0, n⟩ := .inr (.inr (.inl ⟨rfl, hr.1, hr.2, ha.1, ha.2, rfl, hn.1, hn.2⟩))
theorem g6 {fr m : Int} {l : List Int} {o a b n : Int} (h : o = 6 ∨ o = 7) (ha : Rm a) (hb : Rg b) (hn : Cl n) : StG fr m l ⟨o, 0, a, b, n⟩ := .inr (.inr (.inr (.inl ⟨h, rfl, ha.1, ha.2, hb.1, hb.2, hn.1, hn.2⟩)))
theorem g8 {fr m : Int} {l : List Int} {r b n : Int} (hr : Rg r) (hb : Rg b) (hn : Cl n) : StG fr m l ⟨8, r, 0, b, n⟩ := .inr (.inr (.inr (.inr (.inl ⟨rfl, hr.1, hr.2, rfl, hb.1, hb.2, hn.1, hn.2⟩))))
theorem g9 {fr m : Int} {l : List Int} {a : Int} (h : Rg a) : StG fr m l ⟨9, 0, a, 0, 0⟩ := .inr (.inr (.inr (.inr (.inr (.inl ⟨rfl, rfl, h.1, h.2, rfl, rfl⟩)))))
theorem g10 {fr m : Int} {l : List Int} {n : Int} (h : JOk fr m l n) : StG fr m l ⟨10, 0, 0, 0, n⟩ := .inr (.inr (.inr (.inr (.inr (.inr (.inl ⟨rfl, rfl, rfl, rfl, h⟩))))))
theorem g11 {fr m : Int} {l : List Int} {a n : Int} (h : Rg a) (j : JOk fr m l n) : StG fr m l ⟨11, 0, a, 0, n⟩ := .inr (.inr (.inr (.inr (.inr (.inr (.inr (.inl ⟨rfl, rfl, h.1, h.2, rfl, j⟩)))))))
theorem g12 {fr m : Int} {l : List Int} {o : Int} (h : o = 12 ∨ o = 13) : StG fr m l ⟨o, 0, 0, 0, 0⟩ := .inr (.inr (.inr (.inr (.inr (.inr (.inr (.inr ⟨h, rfl, rfl, rfl, rfl⟩)))))))
theorem jW {fr m : Int} {l : List Int} {k : Int} (hf : 0 ≤ fr ∧ fr < 200) (h : 0 ≤ k ∧ k ≤ m ∧ m ≤ 50) : JOk fr m l (wrap64 (fr + k)) := by
  rw [w64 (by omega) (by omega)]
  exact ⟨by omega, by omega, .inl ⟨by omega, by omega⟩⟩
theorem cW {b k : Int} (hb : 0 ≤ b ∧ b ≤ 16) (h : 0 ≤ k ∧ k ≤ 4) : Cl (wrap64 (b + k)) := by
  rw [w64 (by omega) (by omega)]
  exact ⟨by omega, by omega⟩
/-- All of a row are well formed. -/
def GAll (fr m : Int) (l : List Int) (r : List S46) : Prop := ∀ s ∈ r, StG fr m l s
theorem gNil {fr m : Int} {l : List Int} : GAll fr m l [] := fun s h => by cases h
theorem gCons {fr m : Int} {l : List Int} {s : S46} {r : List S46} (h : StG fr m l s) (k : GAll fr m l r) : GAll fr m l (s :: r) := fun x hx => by
  rcases List.mem_cons.1 hx with rfl | hx
  · exact h
  · exact k x hx
theorem gApp {fr m : Int} {l : List Int} {r q : List S46} (h : GAll fr m l r) (k : GAll fr m l q) : GAll fr m l (r ++ q) := fun x hx => by
  rcases List.mem_append.1 hx with hx | hx
  · exact h x hx
  · exact k x hx
/-- How many steps a place takes. -/
def stepsOf (op : Int) : Int := if op = 5 then 29 else if op = 7 then 31 else if op = 6 then 30 else if op = 8 then 32 else if op = 9 then 13 else 1
theorem part_size (x0 x1 x2 x3 fr b c : Int) (h : 5 ≤ x0 ∧ x0 ≤ 9) : ((emLock fr b ++ emPart x0 x1 x2 x3 fr b c).length : Int) = stepsOf x0 := by
  obtain rfl | rfl | rfl | rfl | rfl : x0 = 5 ∨ x0 = 6 ∨ x0 = 7 ∨ x0 = 8 ∨ x0 = 9 := by omega
  all_goals simp [emPart, stepsOf, emLock, em_sendTL, em_sendFL, em_takeTL, em_takeFL, emClose, emOpen, emLet]
set_option maxHeartbeats 8000000 in
theorem part_good (x0 x1 x2 x3 fr b c : Int) (l : List Int) (h : 5 ≤ x0 ∧ x0 ≤ 9) (h1 : 0 ≤ x1 ∧ x1 ≤ 3) (h2 : 0 ≤ x2 ∧ x2 ≤ 3) (h3 : 0 ≤ x3 ∧ x3 ≤ 3) (hf : 0 ≤ fr ∧ fr < 200) (hb : 0 ≤ b ∧ b ≤ 16) (hc : 1 ≤ c ∧ c ≤ 4) : GAll fr (stepsOf x0) l (emLock fr b ++ emPart x0 x1 x2 x3 fr b c) := by
  have k1 := reg h1
  have k2 := reg h2
  have k3 := reg h3
  have m2 : Rm x2 := ⟨Int.le_trans (by decide) h2.1, k2.2⟩
  have kb : Cl b := ⟨hb.1, Int.le_trans hb.2 (by decide)⟩
  have kc : -1000000000 ≤ c ∧ c ≤ 1000000000 := ⟨Int.le_trans (by decide) hc.1, Int.le_trans hc.2 (by decide)⟩
  obtain rfl | rfl | rfl | rfl | rfl : x0 = 5 ∨ x0 = 6 ∨ x0 = 7 ∨ x0 = 8 ∨ x0 = 9 := by omega
  all_goals simp (decide := true) only [emPart, stepsOf, emLock, em_sendTL, em_sendFL, em_takeTL, em_takeFL, emClose, emOpen, emLet, if_pos, if_neg]
  all_goals repeat' (with_reducible first | exact gNil | refine gApp ?_ ?_ | refine gCons ?_ ?_)
  all_goals (with_reducible first
    | refine g1 ?_ ?_ | refine g5 ?_ ?_ ?_ | refine g8 ?_ ?_ ?_ | refine g10 ?_ | refine g11 ?_ ?_ | (refine g12 ?_; decide) | (refine g2 ?_ ?_ ?_ ?_; decide) | (refine g6 ?_ ?_ ?_ ?_; decide))
  all_goals (with_reducible first | assumption | exact jW hf (by decide) | exact cW hb (by decide) | decide)
theorem part_len (x0 x1 x2 x3 fr b c : Int) : (emLock fr b ++ emPart x0 x1 x2 x3 fr b c).length ≤ 100 := by
  unfold emPart
  repeat' split
  all_goals simp [emLock, em_sendTL, em_sendFL, em_takeTL, em_takeFL, emClose, emOpen, emLet]
theorem rd_mem (l : List Int) (i : Int) (h : 0 ≤ i ∧ i < (l.length : Int)) : rd l i ∈ l := by
  unfold rd
  rw [List.getD_eq_getElem?_getD, List.getElem?_eq_getElem (show i.toNat < l.length by omega)]
  exact List.getElem_mem _
theorem ofChan_eq (x0 : Int) : impl_ofChan.f x0 = some (decide (5 ≤ x0 ∧ x0 ≤ 9)) := by
  unfold impl_ofChan.f
  rw [within_eq]
  rfl
set_option maxHeartbeats 2000000 in
theorem emit_both (l0 l3 : List Int) (h0 : l0.length ≤ 1048576) (h3 : l3.length ≤ 1048576) (x0 x1 x2 x3 x4 fr : Int) (hf : wrap64 fr = fr) : ∃ r : List S46, r.length ≤ 100 ∧ Ev (fun k => spec_Emit.f k l0 x0 x1 x2 x3 x4 fr l3) r ∧ Ev (fun k => impl_Emit.f k l0 x0 x1 x2 x3 x4 fr l3) r ∧ (0 ≤ fr ∧ fr < 200 → (∀ v ∈ l3, 0 ≤ v ∧ v < 800) → r = [] ∨ ((r.length : Int) = stepsOf x0 ∧ GAll fr (stepsOf x0) l3 r ∧ 1 ≤ x0 ∧ x0 ≤ 13)) := by
  have hs : Ev (fun k => spec_InsOk.f k x0 x1 x2 x3 x4 (l3.length : Int) (l0.length : Int)) (decide (InsGood x0 x1 x2 x3 x4 (l3.length : Int) (l0.length : Int))) := ev_five (fun k => spec_ins x0 x1 x2 x3 x4 (l3.length : Int) (l0.length : Int) k)
  have hi : Ev (fun k => impl_InsOk.f k x0 x1 x2 x3 x4 (l3.length : Int) (l0.length : Int)) (decide (InsGood x0 x1 x2 x3 x4 (l3.length : Int) (l0.length : Int))) := ev_five (fun k => impl_ins x0 x1 x2 x3 x4 (l3.length : Int) (l0.length : Int) (by omega) (by omega) k)
  unfold spec_Emit.f impl_Emit.f
  by_cases hg : InsGood x0 x1 x2 x3 x4 (l3.length : Int) (l0.length : Int)
  · rw [decide_eq_true hg] at hs hi
    have hc := hg.1
    have hop := hg.2.2.2.2
    have q1 : 0 ≤ x1 ∧ x1 ≤ 3 := hg.2.1
    have q2 : 0 ≤ x2 ∧ x2 ≤ 3 := hg.2.2.1
    have q3 : 0 ≤ x3 ∧ x3 ≤ 3 := hg.2.2.2.1
    by_cases ho : 5 ≤ x0 ∧ x0 ≤ 9
    · have hn : 0 ≤ x4 ∧ x4 < (l0.length : Int) := by omega
      obtain ⟨b, b1, b2, b3, b4⟩ := base_both l0 (by omega) x4 hn.1 hn.2
      have oc : impl_ofChan.f x0 = some true := by rw [ofChan_eq, decide_eq_true ho]
      by_cases c : b < 0
      · refine ⟨[], by simp, ?_, ?_, fun _ _ => .inl rfl⟩
        · refine ev_bind0 rfl (Ev.bind hs (ev_pos rfl (ev_neg (by omega) (ev_neg (by omega) (ev_neg (by omega) (ev_neg (by omega) (ev_neg (by omega) (ev_neg (by omega) (ev_neg (by omega) (ev_neg (by omega) (Ev.bind b1 (ev_pos c (ev_some rfl)))))))))))))
        · exact Ev.bind hi (ev_pos rfl (ev_bind0 oc (ev_pos rfl (Ev.bind b2 (ev_pos c (ev_some rfl))))))
      · refine ⟨emLock fr b ++ emPart x0 x1 x2 x3 fr b (rd l0 x4), part_len _ _ _ _ _ _ _, ?_, ?_, fun f _ => .inr ⟨part_size _ _ _ _ _ _ _ ho, part_good _ _ _ _ _ _ _ _ ho q1 q2 q3 f ⟨Int.not_lt.1 c, b3⟩ (b4 (Int.not_lt.1 c)), Int.le_trans (by decide) ho.1, Int.le_trans ho.2 (by decide)⟩⟩
        · refine ev_bind0 rfl (Ev.bind hs (ev_pos rfl (ev_neg (by omega) (ev_neg (by omega) (ev_neg (by omega) (ev_neg (by omega) (ev_neg (by omega) (ev_neg (by omega) (ev_neg (by omega) (ev_neg (by omega) (Ev.bind b1 (ev_neg c ?_))))))))))))
          have go : ∀ z, z = (x0 == 5 || x0 == 7) → Ev (fun k => spec_Emit.j0 k l0 fr b x0 z x0 x1 x2 x3 x4) (emLock fr b ++ emPart x0 x1 x2 x3 fr b (rd l0 x4)) := by
            intro z hz
            refine Ev.step (fun k => by rw [spec_Emit.j0]) ?_
            unfold emPart
            by_cases o5 : x0 = 5
            · subst o5
              rw [if_pos rfl]
              exact ev_pos (by rw [hz]; rfl) (ev_pos hn.1 (ev_pos hn.2 (ev_bind0 (sendF_eq _ _ _ _ _ _ _ hf) (ev_some rfl))))
            rw [if_neg o5]
            by_cases o7 : x0 = 7
            · subst o7
              rw [if_pos rfl]
              exact ev_pos (by rw [hz]; rfl) (ev_pos hn.1 (ev_pos hn.2 (ev_bind0 (sendT_eq _ _ _ _ _ _ _ hf) (ev_some rfl))))
            rw [if_neg o7]
            refine ev_neg (by rw [hz]; simp [o5, o7]) ?_
            by_cases o6 : x0 = 6
            · subst o6
              rw [if_pos rfl]
              refine ev_pos rfl (Ev.step (fun k => by rw [spec_Emit.j1]) ?_)
              exact ev_pos rfl (ev_pos hn.1 (ev_pos hn.2 (ev_bind0 (takeF_eq _ _ _ _ _ _ _ hf) (ev_some rfl))))
            rw [if_neg o6]
            refine ev_neg o6 (Ev.step (fun k => by rw [spec_Emit.j1]) ?_)
            by_cases o8 : x0 = 8
            · subst o8
              rw [if_pos rfl]
              exact ev_pos rfl (ev_pos hn.1 (ev_pos hn.2 (ev_bind0 (takeT_eq _ _ _ _ _ _ _ hf) (ev_some rfl))))
            rw [if_neg o8]
            exact ev_neg (by simpa using o8) (ev_bind0 (close_eq _ _ hf) (ev_some rfl))
          by_cases o5 : x0 = 5
          · exact ev_pos o5 (go _ (by simp [o5]))
          · exact ev_neg o5 (go _ (by simp [o5]))
        · exact Ev.bind hi (ev_pos rfl (ev_bind0 oc (ev_pos rfl (Ev.bind b2 (ev_neg c (ev_pos hn (ev_some rfl)))))))
    · have oc : impl_ofChan.f x0 = some false := by rw [ofChan_eq, decide_eq_false ho]
      have r13 : 1 ≤ x0 ∧ x0 ≤ 13 := by omega
      have sz : stepsOf x0 = 1 := by unfold stepsOf; rw [if_neg (by omega), if_neg (by omega), if_neg (by omega), if_neg (by omega), if_neg (by omega)]
      have key : ∀ s : Int × Int × Int × Int × Int, impl_single.f x0 x1 x2 x3 x4 l3 = some s → Ev (fun k => spec_Emit.f k l0 x0 x1 x2 x3 x4 fr l3) [(⟨s.1, s.2.1, s.2.2.1, s.2.2.2.1, s.2.2.2.2⟩ : S46)] → ((∀ v ∈ l3, 0 ≤ v ∧ v < 800) → StG fr 1 l3 (⟨s.1, s.2.1, s.2.2.1, s.2.2.2.1, s.2.2.2.2⟩ : S46)) → ∃ r : List S46, r.length ≤ 100 ∧ Ev (fun k => spec_Emit.f k l0 x0 x1 x2 x3 x4 fr l3) r ∧ Ev (fun k => (impl_InsOk.f k x0 x1 x2 x3 x4 (l3.length : Int) (l0.length : Int)).bind fun t => if t = true then (impl_ofChan.f x0).bind fun u => if u = true then (impl_Base.f k l0 x4).bind fun b => if b < 0 then some [] else if 0 ≤ x4 ∧ x4 < (l0.length : Int) then some (emLock fr b ++ emPart x0 x1 x2 x3 fr b (rd l0 x4)) else none else (impl_single.f x0 x1 x2 x3 x4 l3).bind fun s => some [(⟨s.1, s.2.1, s.2.2.1, s.2.2.2.1, s.2.2.2.2⟩ : S46)] else some []) r ∧ (0 ≤ fr ∧ fr < 200 → (∀ v ∈ l3, 0 ≤ v ∧ v < 800) → r = [] ∨ ((r.length : Int) = stepsOf x0 ∧ GAll fr (stepsOf x0) l3 r ∧ 1 ≤ x0 ∧ x0 ≤ 13)) :=
        fun s e h g => ⟨_, by simp, h, Ev.bind hi (ev_pos rfl (ev_bind0 oc (ev_neg (by decide) (ev_bind0 e (ev_some rfl))))), fun _ hv => .inr ⟨by rw [sz]; rfl, by rw [sz]; exact gCons (g hv) gNil, r13.1, r13.2⟩⟩
      unfold spec_Emit.f at key
      obtain rfl | rfl | rfl | rfl | rfl | rfl | rfl | rfl : x0 = 1 ∨ x0 = 2 ∨ x0 = 3 ∨ x0 = 4 ∨ x0 = 10 ∨ x0 = 11 ∨ x0 = 12 ∨ x0 = 13 := by omega
      · exact key (1, x1, 0, 0, x4) rfl (ev_bind0 rfl (Ev.bind hs (ev_pos rfl (ev_pos rfl (ev_bind0 rfl (ev_some rfl)))))) (fun _ => g1 (reg q1) ⟨by show _ ≤ x4; omega, by show x4 ≤ _; omega⟩)
      · exact key (2, x1, x2, x3, 0) rfl (ev_bind0 rfl (Ev.bind hs (ev_pos rfl (ev_neg (by decide) (ev_pos rfl (ev_bind0 rfl (ev_some rfl))))))) (fun _ => g2 (.inl rfl) (reg q1) (reg q2) (reg q3))
      · exact key (3, x1, x2, x3, 0) rfl (ev_bind0 rfl (Ev.bind hs (ev_pos rfl (ev_neg (by decide) (ev_neg (by decide) (ev_pos rfl (ev_bind0 rfl (ev_some rfl)))))))) (fun _ => g2 (.inr (.inl rfl)) (reg q1) (reg q2) (reg q3))
      · exact key (4, x1, x2, x3, 0) rfl (ev_bind0 rfl (Ev.bind hs (ev_pos rfl (ev_neg (by decide) (ev_neg (by decide) (ev_neg (by decide) (ev_pos rfl (ev_bind0 rfl (ev_some rfl))))))))) (fun _ => g2 (.inr (.inr rfl)) (reg q1) (reg q2) (reg q3))
      · exact key (9, 0, x2, 0, 0) rfl (ev_bind0 rfl (Ev.bind hs (ev_pos rfl (ev_neg (by decide) (ev_neg (by decide) (ev_neg (by decide) (ev_neg (by decide) (ev_pos rfl (ev_some rfl))))))))) (fun _ => g9 (reg q2))
      · have hn : 0 ≤ x4 ∧ x4 < (l3.length : Int) := by omega
        refine key (10, 0, 0, 0, rd l3 x4) ?_ (ev_bind0 rfl (Ev.bind hs (ev_pos rfl (ev_neg (by decide) (ev_neg (by decide) (ev_neg (by decide) (ev_neg (by decide) (ev_neg (by decide) (ev_pos rfl (ev_pos hn.1 (ev_pos hn.2 (ev_bind0 rfl (ev_some rfl))))))))))))) (fun hv => g10 ⟨(hv _ (rd_mem l3 x4 hn)).1, (hv _ (rd_mem l3 x4 hn)).2, .inr (rd_mem l3 x4 hn)⟩)
        simp [impl_single.f, hn.1, hn.2]
      · have hn : 0 ≤ x4 ∧ x4 < (l3.length : Int) := by omega
        refine key (11, 0, x2, 0, rd l3 x4) ?_ (ev_bind0 rfl (Ev.bind hs (ev_pos rfl (ev_neg (by decide) (ev_neg (by decide) (ev_neg (by decide) (ev_neg (by decide) (ev_neg (by decide) (ev_neg (by decide) (ev_pos rfl (ev_pos hn.1 (ev_pos hn.2 (ev_bind0 rfl (ev_some rfl)))))))))))))) (fun hv => g11 (reg q2) ⟨(hv _ (rd_mem l3 x4 hn)).1, (hv _ (rd_mem l3 x4 hn)).2, .inr (rd_mem l3 x4 hn)⟩)
        simp [impl_single.f, hn.1, hn.2]
      · exact key (12, 0, 0, 0, 0) rfl (ev_bind0 rfl (Ev.bind hs (ev_pos rfl (ev_neg (by decide) (ev_neg (by decide) (ev_neg (by decide) (ev_neg (by decide) (ev_neg (by decide) (ev_neg (by decide) (ev_neg (by decide) (ev_pos rfl (ev_some rfl)))))))))))) (fun _ => g12 (.inl rfl))
  · rw [decide_eq_false hg] at hs hi
    exact ⟨[], by simp, ev_bind0 rfl (Ev.bind hs (ev_neg (by decide) (ev_some rfl))), Ev.bind hi (ev_neg (by decide) (ev_some rfl)), fun _ _ => .inl rfl⟩
end Go.Proofs.Ytonlhgkpmjefkaa.CoreEmittedFnEmitted
