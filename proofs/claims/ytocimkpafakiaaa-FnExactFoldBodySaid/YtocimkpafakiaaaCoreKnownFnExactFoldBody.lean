/- What is known at a place: the order of rows (who knows less), the meet, what is known behind a place; a state that is above every solution and is one is the only such. Plain laws, no program. -/
import Derived.Test.YtocimkpafakiaaaXFnExactFoldBodyx19
import Derived.Test.YtocimkpafakiaaaCoreFlowFnExactFoldBody
import Derived.Test.YtocimkpafakiaaaLib
namespace Go.Proofs.Ytocimkpafakiaaa.CoreSolFnExactFoldBody
open Go.RowKit Go.Proofs.Ytocimkpafakiaaa.XFnExactFoldBody Go.Proofs.Ytocimkpafakiaaa.Lib Go.Proofs.Ytocimkpafakiaaa.CoreInsFnExactFoldBody Go.Proofs.Ytocimkpafakiaaa.CoreBodyFnExactFoldBody Go.Proofs.Ytocimkpafakiaaa.CoreFlowFnExactFoldBody Go.Proofs.YtocimkpafakiaaaW.PrintWords Go.Proofs.YtocimkpafakiaaaW.PrintLast Go.Proofs.YtocimkpafakiaaaW.PrintMore
set_option linter.unusedVariables false
set_option linter.unusedSimpArgs false

/-- u knows no more than v. -/
def Le (u v : List S83) : Prop := ∀ r : Nat, (u.getD r z83).f0 = true → v.getD r z83 = u.getD r z83
def Norm (u : List S83) : Prop := u.length = 4 ∧ ∀ r : Nat, (u.getD r z83).f0 = false → u.getD r z83 = z83
theorem z83_f0 : (z83).f0 = false := rfl
theorem Le.refl (u : List S83) : Le u u := fun _ _ => rfl
theorem Le.trans {u v w : List S83} (h : Le u v) (h2 : Le v w) : Le u w := fun r hr => (h2 r (by rw [h r hr]; exact hr)).trans (h r hr)
theorem Le.anti {u v : List S83} (hu : Norm u) (hv : Norm v) (h : Le u v) (h2 : Le v u) : u = v := by
  refine List.ext_getElem (hu.1.trans hv.1.symm) (fun r h3 h4 => ?_)
  have e : u.getD r z83 = v.getD r z83 := by
    cases c : (u.getD r z83).f0 with
    | true => exact (h r c).symm
    | false =>
      cases d : (v.getD r z83).f0 with
      | true => exact h2 r d
      | false => rw [hu.2 r c, hv.2 r d]
  rwa [List.getD_eq_getElem?_getD, List.getD_eq_getElem?_getD, List.getElem?_eq_getElem h3, List.getElem?_eq_getElem h4] at e
theorem getD_set (u : List S83) (i r : Nat) (e : S83) (hi : i < u.length) : (u.set i e).getD r z83 = if i = r then e else u.getD r z83 := by
  by_cases c : i = r
  · subst c
    rw [if_pos rfl]
    exact L_set_self _ _ _ _ hi
  · rw [if_neg c]
    exact L_set_ne _ _ _ _ _ (fun e => c e)
theorem Le.set {u v : List S83} (h : Le u v) (hl : u.length = v.length) (i : Nat) (e : S83) (hi : i < u.length) : Le (u.set i e) (v.set i e) := by
  intro r hr
  rw [getD_set _ _ _ _ hi] at hr ⊢
  rw [getD_set _ _ _ _ (by omega)]
  by_cases c : i = r
  · rw [if_pos c, if_pos c]
  · rw [if_neg c] at hr
    rw [if_neg c, if_neg c]
    exact h r hr
theorem Le.low {u v : List S83} (h : Le u v) (hl : u.length = v.length) (i : Nat) (e : S83) (hi : i < u.length) : Le (u.set i z83) (v.set i e) := by
  intro r hr
  rw [getD_set _ _ _ _ hi] at hr ⊢
  rw [getD_set _ _ _ _ (by omega)]
  by_cases c : i = r
  · rw [if_pos c] at hr
    exact absurd hr (by decide)
  · rw [if_neg c] at hr
    rw [if_neg c, if_neg c]
    exact h r hr
theorem Norm.set {u : List S83} (h : Norm u) (i : Nat) (e : S83) (hi : i < 4) (he : e.f0 = false → e = z83) : Norm (u.set i e) := by
  refine ⟨by rw [List.length_set]; exact h.1, fun r hr => ?_⟩
  rw [getD_set _ _ _ _ (by rw [h.1]; exact hi)] at hr ⊢
  by_cases c : i = r
  · rw [if_pos c] at hr ⊢
    exact he hr
  · rw [if_neg c] at hr ⊢
    exact h.2 r hr
/-- the meet of two -/
def mtc (x y : S83) : S83 := if x.f0 = true ∧ (!((true) == y.f0) || (!(x.f1 == y.f1))) = true then ⟨false, 0⟩ else x
def mt (a b : List S83) : List S83 := List.zipWith mtc a b
theorem mt_at (a b : List S83) (ha : a.length = 4) (hb : b.length = 4) (r : Nat) : (mt a b).getD r z83 = mtc (a.getD r z83) (b.getD r z83) := by
  unfold mt
  by_cases h : r < 4
  · rw [List.getD_eq_getElem?_getD, List.getD_eq_getElem?_getD, List.getD_eq_getElem?_getD, List.getElem?_zipWith, List.getElem?_eq_getElem (show r < a.length by omega), List.getElem?_eq_getElem (show r < b.length by omega)]
    rfl
  · rw [List.getD_eq_getElem?_getD, List.getD_eq_getElem?_getD, List.getD_eq_getElem?_getD, List.getElem?_eq_none (by rw [List.length_zipWith]; omega), List.getElem?_eq_none (show a.length ≤ r by omega), List.getElem?_eq_none (show b.length ≤ r by omega)]
    rfl
theorem mt_len (a b : List S83) (ha : a.length = 4) (hb : b.length = 4) : (mt a b).length = 4 := by
  unfold mt
  rw [List.length_zipWith]
  omega
theorem mtc_same (x y : S83) (h : x.f0 = true) (h2 : (!((true) == y.f0) || (!(x.f1 == y.f1))) = false) : y = x := by
  obtain ⟨a, b⟩ := x
  obtain ⟨c, d⟩ := y
  simp at h h2 ⊢
  obtain ⟨h3, h4⟩ := h2
  exact ⟨by rw [h3, h], h4.symm⟩
theorem mt_le {a b : List S83} (ha : a.length = 4) (hb : b.length = 4) : Le (mt a b) a := by
  intro r hr
  rw [mt_at a b ha hb] at hr ⊢
  unfold mtc at hr ⊢
  split at hr
  · exact absurd hr (by decide)
  · rename_i c
    rw [if_neg c]
theorem mt_le2 {a b : List S83} (ha : a.length = 4) (hb : b.length = 4) : Le (mt a b) b := by
  intro r hr
  rw [mt_at a b ha hb] at hr ⊢
  unfold mtc at hr ⊢
  split at hr
  · exact absurd hr (by decide)
  · rename_i c
    rw [if_neg c]
    refine mtc_same _ _ hr ?_
    cases d : (!((true) == (b.getD r z83).f0) || (!((a.getD r z83).f1 == (b.getD r z83).f1))) with
    | false => rfl
    | true => exact absurd ⟨hr, d⟩ c
theorem le_mt {u a b : List S83} (ha : a.length = 4) (hb : b.length = 4) (h : Le u a) (h2 : Le u b) : Le u (mt a b) := by
  intro r hr
  have e1 := h r hr
  have e2 := h2 r hr
  rw [mt_at a b ha hb, e1, e2]
  unfold mtc
  rw [if_neg (fun c => by have h_ := c.2; rw [hr, beq_self_eq_true, beq_self_eq_true] at h_; exact absurd h_ (by decide))]
theorem mt_norm {a b : List S83} (ha : Norm a) (hb : b.length = 4) : Norm (mt a b) := by
  refine ⟨mt_len a b ha.1 hb, fun r hr => ?_⟩
  rw [mt_at a b ha.1 hb] at hr ⊢
  unfold mtc at hr ⊢
  split
  · rfl
  · rename_i c
    rw [if_neg c] at hr
    exact ha.2 r hr
/-- what is known behind a place -/
def three (x : S63) : Prop := x.f0 = 2 ∨ x.f0 = 3 ∨ x.f0 = 4
instance (x : S63) : Decidable (three x) := by unfold three; infer_instance
def setsK (x : S63) : List Int := if x.f0 = 1 ∨ x.f0 = 2 ∨ x.f0 = 3 ∨ x.f0 = 4 ∨ x.f0 = 7 then [x.f1] else if x.f0 = 6 ∨ x.f0 = 8 then [x.f1, x.f3] else []
def comp (op a b : Int) : Int := if op = 2 then wrap64 (a + b) else if op = 3 then wrap64 (a - b) else (if a < b then 1 else 0)
def low (u : List S83) (s : List Int) : List S83 := s.foldl (fun a r => a.set r.toNat (⟨false, 0⟩ : S83)) u
def beh (x : S63) (u : List S83) : List S83 :=
  if x.f0 = 1 then (low u (setsK x)).set x.f1.toNat ⟨true, x.f4⟩
  else if three x ∧ (rd_T83 u x.f2).f0 = true ∧ (rd_T83 u x.f3).f0 = true then (low u (setsK x)).set x.f1.toNat ⟨true, comp x.f0 (rd_T83 u x.f2).f1 (rd_T83 u x.f3).f1⟩
  else low u (setsK x)
def Regs (x : S63) : Prop := (∀ r ∈ setsK x, 0 ≤ r ∧ r < 4) ∧ (x.f0 = 1 ∨ three x → 0 ≤ x.f1 ∧ x.f1 < 4) ∧ (three x → (0 ≤ x.f2 ∧ x.f2 < 4) ∧ (0 ≤ x.f3 ∧ x.f3 < 4))
theorem low_len (s : List Int) : ∀ u : List S83, (low u s).length = u.length := by
  induction s with
  | nil => intro u; rfl
  | cons r s ih =>
    intro u
    show (low (u.set r.toNat _) s).length = _
    rw [ih, List.length_set]
theorem low_le (s : List Int) : ∀ u v : List S83, Le u v → u.length = 4 → v.length = 4 → (∀ r ∈ s, 0 ≤ r ∧ r < 4) → Le (low u s) (low v s) := by
  induction s with
  | nil => intro u v h _ _ _; exact h
  | cons r s ih =>
    intro u v h hu hv hs
    have hr := hs r (by simp)
    exact ih _ _ (Le.set h (by omega) _ _ (by omega)) (by rw [List.length_set]; exact hu) (by rw [List.length_set]; exact hv) (fun y hy => hs y (List.mem_cons_of_mem _ hy))
theorem low_norm (s : List Int) : ∀ u : List S83, Norm u → (∀ r ∈ s, 0 ≤ r ∧ r < 4) → Norm (low u s) := by
  induction s with
  | nil => intro u h _; exact h
  | cons r s ih =>
    intro u h hs
    have hr := hs r (by simp)
    exact ih _ (Norm.set h _ _ (by omega) (fun _ => rfl)) (fun y hy => hs y (List.mem_cons_of_mem _ hy))
theorem beh_norm (x : S63) (hx : Regs x) (u : List S83) (h : Norm u) : Norm (beh x u) := by
  have hl := low_norm (setsK x) u h hx.1
  unfold beh
  split
  · rename_i c
    exact Norm.set hl _ _ (by have := hx.2.1 (.inl c); omega) (fun e => by cases e)
  · split
    · rename_i c
      exact Norm.set hl _ _ (by have := hx.2.1 (.inr c.1); omega) (fun e => by cases e)
    · exact hl
theorem setsK_three (x : S63) (h : three x) : setsK x = [x.f1] := if_pos (by unfold three at h; omega)
theorem beh_le (x : S63) (hx : Regs x) (u v : List S83) (hu : u.length = 4) (hv : v.length = 4) (h : Le u v) : Le (beh x u) (beh x v) := by
  have hl := low_le (setsK x) u v h hu hv hx.1
  have hlu : (low u (setsK x)).length = 4 := (low_len _ _).trans hu
  have hlv : (low v (setsK x)).length = 4 := (low_len _ _).trans hv
  unfold beh
  by_cases c1 : x.f0 = 1
  · rw [if_pos c1, if_pos c1]
    exact Le.set hl (by omega) _ _ (by have := hx.2.1 (.inl c1); omega)
  · rw [if_neg c1, if_neg c1]
    by_cases cu : three x ∧ (rd_T83 u x.f2).f0 = true ∧ (rd_T83 u x.f3).f0 = true
    · have e2 : rd_T83 v x.f2 = rd_T83 u x.f2 := h _ cu.2.1
      have e3 : rd_T83 v x.f3 = rd_T83 u x.f3 := h _ cu.2.2
      rw [if_pos cu, if_pos ⟨cu.1, by rw [e2]; exact cu.2.1, by rw [e3]; exact cu.2.2⟩, e2, e3]
      exact Le.set hl (by omega) _ _ (by have := hx.2.1 (.inr cu.1); omega)
    · rw [if_neg cu]
      by_cases cv : three x ∧ (rd_T83 v x.f2).f0 = true ∧ (rd_T83 v x.f3).f0 = true
      · rw [if_pos cv, setsK_three x cv.1]
        have hr := hx.2.1 (.inr cv.1)
        show Le (u.set x.f1.toNat z83) ((v.set x.f1.toNat ⟨false, 0⟩).set x.f1.toNat _)
        rw [List.set_set]
        exact Le.low h (by omega) _ _ (by omega)
      · rw [if_neg cv]
        exact hl
/-! ### states, solutions -/
section
variable (nb : Nat → List Nat) (tr : Nat → List S83 → List S83) (top : List S83)
def Sol (R : Nat → Option (List S83)) : Prop := (∃ u, R 0 = some u ∧ Le u top) ∧ ∀ a u, R a = some u → ∀ y ∈ nb a, ∃ v, R y = some v ∧ Le v (tr a u)
def Rows (R : Nat → Option (List S83)) : Prop := ∀ a u, R a = some u → Norm u
def Mono : Prop := ∀ a u v, Norm u → Norm v → Le u v → Le (tr a u) (tr a v)
def Above (A R : Nat → Option (List S83)) : Prop := ∀ a u, A a = some u → ∃ v, R a = some v ∧ Le v u
def upd (A : Nat → Option (List S83)) (y : Nat) (v : List S83) : Nat → Option (List S83) := fun a => if a = y then some v else A a
theorem upd_self (A : Nat → Option (List S83)) (y : Nat) (v : List S83) : upd A y v y = some v := if_pos rfl
theorem upd_ne (A : Nat → Option (List S83)) (y a : Nat) (v : List S83) (h : a ≠ y) : upd A y v a = A a := if_neg h
variable {nb tr top}
theorem above_upd {A R : Nat → Option (List S83)} (h : Above A R) (y : Nat) (v : List S83) (hv : ∃ w, R y = some w ∧ Le w v) : Above (upd A y v) R := by
  intro a u ha
  by_cases c : a = y
  · subst c
    rw [upd_self] at ha
    obtain rfl := Option.some.inj ha
    exact hv
  · rw [upd_ne _ _ _ _ c] at ha
    exact h a u ha
theorem edge {A R : Nat → Option (List S83)} (mono : Mono tr) (hR : Sol nb tr top R) (nR : Rows R) (h : Above A R) {a y : Nat} {u : List S83} (ha : A a = some u) (hu : Norm u) (hy : y ∈ nb a) : ∃ w, R y = some w ∧ Le w (tr a u) := by
  obtain ⟨v, hv, hle⟩ := h a u ha
  obtain ⟨w, hw, hlw⟩ := hR.2 a v hv y hy
  exact ⟨w, hw, hlw.trans (mono a v u (nR a v hv) hu hle)⟩
theorem above_new {A R : Nat → Option (List S83)} (mono : Mono tr) (hR : Sol nb tr top R) (nR : Rows R) (h : Above A R) {a y : Nat} {u : List S83} (ha : A a = some u) (hu : Norm u) (hy : y ∈ nb a) : Above (upd A y (tr a u)) R := above_upd h y _ (edge mono hR nR h ha hu hy)
theorem above_meet {A R : Nat → Option (List S83)} (mono : Mono tr) (hR : Sol nb tr top R) (nR : Rows R) (h : Above A R) {a y : Nat} {u v : List S83} (ha : A a = some u) (hu : Norm u) (hy : y ∈ nb a) (hv : A y = some v) (nv : Norm v) (nk : Norm (tr a u)) : Above (upd A y (mt v (tr a u))) R := by
  obtain ⟨w, hw, h1⟩ := edge mono hR nR h ha hu hy
  obtain ⟨w2, hw2, h2⟩ := h y v hv
  obtain rfl := Option.some.inj (hw.symm.trans hw2)
  exact above_upd h y _ ⟨w, hw, le_mt nv.1 nk.1 h2 h1⟩
/-- Two solutions, each above every solution, are one. -/
theorem sol_one {A B : Nat → Option (List S83)} (nA : Rows A) (nB : Rows B) (h1 : Above A B) (h2 : Above B A) : A = B := by
  funext a
  cases ca : A a with
  | none =>
    cases cb : B a with
    | none => rfl
    | some v =>
      obtain ⟨u, hu, _⟩ := h2 a v cb
      rw [ca] at hu
      cases hu
  | some u =>
    obtain ⟨v, hv, hle⟩ := h1 a u ca
    obtain ⟨u2, hu2, hle2⟩ := h2 a v hv
    obtain rfl := Option.some.inj (ca.symm.trans hu2)
    rw [hv, Le.anti (nA a u ca) (nB a v hv) hle2 hle]
end
/-! ### how much is known: what falls with each change -/
def cnt (u : List S83) : Nat := (u.filter (fun x => x.f0)).length
theorem cnt_le (u : List S83) : cnt u ≤ u.length := List.length_filter_le _ _
theorem mt_cnt : ∀ a b : List S83, cnt (mt a b) ≤ cnt a := by
  intro a
  induction a with
  | nil => intro b; exact Nat.le_refl _
  | cons x a ih =>
    intro b
    cases b with
    | nil => exact Nat.zero_le _
    | cons y b =>
      have h := ih b
      unfold cnt mt at h ⊢
      rw [List.zipWith_cons_cons]
      have hc : (mtc x y).f0 = true → x.f0 = true := by
        unfold mtc
        split
        · intro e
          cases e
        · exact fun e => e
      cases c : (mtc x y).f0 with
      | true =>
        rw [List.filter_cons_of_pos (by simpa using c), List.filter_cons_of_pos (by simpa using hc c)]
        simp only [List.length_cons]
        omega
      | false =>
        rw [List.filter_cons_of_neg (by simpa using c)]
        cases d : x.f0 with
        | true =>
          rw [List.filter_cons_of_pos (by simpa using d)]
          simp only [List.length_cons]
          omega
        | false =>
          rw [List.filter_cons_of_neg (by simpa using d)]
          exact h
end Go.Proofs.Ytocimkpafakiaaa.CoreSolFnExactFoldBody

namespace Go.Proofs.Ytocimkpafakiaaa.CoreBehindFnExactFoldBody
open Go.RowKit Go.Proofs.Ytocimkpafakiaaa.XFnExactFoldBody Go.Proofs.Ytocimkpafakiaaa.Lib Go.Proofs.Ytocimkpafakiaaa.CoreSolFnExactFoldBody Go.Proofs.YtocimkpafakiaaaW.PrintWords Go.Proofs.YtocimkpafakiaaaW.PrintLast Go.Proofs.YtocimkpafakiaaaW.PrintMore
set_option linter.unusedVariables false
set_option linter.unusedSimpArgs false

theorem ev_one {α : Type} {g : Nat → Option α} {r : α} (h : ∀ k, g (k + 1) = some r) : Ev g r := ⟨1, fun n hn => by obtain ⟨m, rfl⟩ : ∃ m, n = m + 1 := ⟨n - 1, by omega⟩; exact h m⟩
theorem spec_sets (x : S63) : Ev (fun k => spec_Sets.f k x.f0 x.f1 x.f2 x.f3 x.f4) (setsK x) := ev_one fun k => by
  unfold spec_Sets.f setsK
  simp only [spec_Sets.j0]
  by_cases h1 : x.f0 = 1
  · simp [h1]
  by_cases h2 : x.f0 = 2
  · simp [h2]
  by_cases h3 : x.f0 = 3
  · simp [h3]
  by_cases h4 : x.f0 = 4
  · simp [h4]
  by_cases h7 : x.f0 = 7
  · simp [h7]
  by_cases h6 : x.f0 = 6
  · simp [h6]
  by_cases h8 : x.f0 = 8
  · simp [h8]
  simp [h1, h2, h3, h4, h6, h7, h8]
theorem impl_sets (x : S63) : Ev (fun k => impl_Sets.f k x.f0 x.f1 x.f2 x.f3 x.f4) (setsK x) := ev_one fun k => by
  unfold impl_Sets.f setsK
  simp only [impl_Sets.j0]
  by_cases h1 : x.f0 = 1
  · simp [h1]
  by_cases h2 : x.f0 = 2
  · simp [h2]
  by_cases h3 : x.f0 = 3
  · simp [h3]
  by_cases h4 : x.f0 = 4
  · simp [h4]
  by_cases h7 : x.f0 = 7
  · simp [h7]
  by_cases h6 : x.f0 = 6
  · simp [h6]
  by_cases h8 : x.f0 = 8
  · simp [h8]
  simp [h1, h2, h3, h4, h6, h7, h8]

/-! ### a number in a row; two rows alike -/
theorem of_comp (op a b : Int) : spec_l19Of.f op a b = some (comp op a b) := by
  unfold spec_l19Of.f comp
  split
  · rfl
  · split
    · rfl
    · unfold spec_l4Bit.f
      by_cases c : a < b
      · simp [c]
      · simp [c]
theorem compute_comp (op a b : Int) : impl_compute.f op a b = some (comp op a b) := by
  unfold impl_compute.f comp
  split
  · rfl
  · split
    · rfl
    · unfold impl_number.f
      by_cases c : a < b
      · simp [c]
      · simp [c]
theorem low_drop (u : List S83) (s : List Int) (i : Nat) (h : i < s.length) : low u (s.drop i) = low (u.set (s.getD i 0).toNat (⟨false, 0⟩ : S83)) (s.drop (i + 1)) := by
  rw [List.drop_eq_getElem_cons h, List.getD_eq_getElem?_getD, List.getElem?_eq_getElem h]
  rfl
theorem in_s (s : List Int) (i : Nat) (h : i < s.length) : s.getD i 0 ∈ s := by
  rw [List.getD_eq_getElem?_getD, List.getElem?_eq_getElem h]
  exact List.getElem_mem _
theorem spec_low (x : S63) (kn : List S83) (s : List Int) (hs : ∀ r ∈ s, 0 ≤ r ∧ r < 4) (hl : s.length ≤ 4) (R : List S83) : ∀ (n i : Nat) (u : List S83), i + n = s.length → u.length = 4 → Ev (fun k => spec_l19Behind.l0 k kn (low u (s.drop i)) s (s.length : Int) x.f0 x.f1 x.f2 x.f3 x.f4) R → Ev (fun k => spec_l19Behind.l0 k kn u s (i : Int) x.f0 x.f1 x.f2 x.f3 x.f4) R := by
  intro n
  induction n with
  | zero =>
    intro i u hi hu h
    rw [show i = s.length by omega] at h ⊢
    rw [List.drop_length] at h
    exact h
  | succ n ih =>
    intro i u hi hu h
    have hr := hs _ (in_s s i (by omega))
    have e : rd s (i : Int) = s.getD i 0 := by unfold rd; rw [Int.toNat_natCast]
    rw [low_drop u s i (by omega)] at h
    refine Ev.step (fun k => by rw [spec_l19Behind.l0]) ?_
    rw [e]
    refine ev_pos (by omega) (ev_pos (by omega) (ev_pos hr.1 (ev_pos (by omega) ?_)))
    rw [w64_nat (by omega)]
    exact ih (i + 1) _ (by omega) (by rw [List.length_set]; exact hu) h
theorem spec_beh (x : S63) (hx : Regs x) (kn : List S83) (hk : kn.length = 4) : Ev (fun k => spec_l19Behind.f k x.f0 x.f1 x.f2 x.f3 x.f4 kn) (beh x kn) := by
  unfold spec_l19Behind.f
  have hsl : (setsK x).length ≤ 4 := by
    unfold setsK
    split
    · simp
    · split <;> simp
  have hw : (low kn (setsK x)).length = 4 := (low_len _ _).trans hk
  refine ev_bind0 rfl (ev_pos (by rw [List.length_nil]; omega) (Ev.bind (spec_sets x) ?_))
  rw [List.nil_append]
  refine spec_low x kn (setsK x) hx.1 hsl _ (setsK x).length 0 kn (by omega) hk ?_
  rw [List.drop_zero]
  refine Ev.step (fun k => by rw [spec_l19Behind.l0]) (ev_neg (by omega) ?_)
  unfold beh
  by_cases c1 : x.f0 = 1
  · have h1 := hx.2.1 (.inl c1)
    rw [if_pos c1]
    refine ev_pos c1 (ev_pos h1.1 (ev_pos (by omega) ?_))
    refine Ev.step (fun k => by rw [spec_l19Behind.j1]) ?_
    refine ev_bind0 (x := false) (by unfold spec_l19Three.f; simp [c1]) (ev_neg (by decide) (ev_some rfl))
  · rw [if_neg c1]
    refine ev_neg c1 (Ev.step (fun k => by rw [spec_l19Behind.j1]) ?_)
    have h3 : spec_l19Three.f x.f0 = some (decide (three x)) := by
      unfold spec_l19Three.f three
      by_cases a : x.f0 = 2
      · simp [a]
      · by_cases b : x.f0 = 3
        · simp [b]
        · by_cases c : x.f0 = 4 <;> simp [a, b, c]
    refine ev_bind0 h3 ?_
    by_cases c3 : three x
    · have h1 := hx.2.1 (.inr c3)
      have h2 := hx.2.2 c3
      refine ev_pos (decide_eq_true c3) (ev_pos h2.1.1 (ev_pos (by omega) ?_))
      by_cases ca : (rd_T83 kn x.f2).f0 = true
      · refine ev_pos ca (ev_pos h2.2.1 (ev_pos (by omega) ?_))
        by_cases cb : (rd_T83 kn x.f3).f0 = true
        · rw [if_pos (c := three x ∧ (rd_T83 kn x.f2).f0 = true ∧ (rd_T83 kn x.f3).f0 = true) ⟨c3, ca, cb⟩]
          exact ev_pos cb (ev_bind0 (of_comp _ _ _) (ev_pos h1.1 (ev_pos (by omega) (ev_some rfl))))
        · rw [if_neg (c := three x ∧ (rd_T83 kn x.f2).f0 = true ∧ (rd_T83 kn x.f3).f0 = true) (fun h => cb h.2.2)]
          exact ev_neg cb (ev_some rfl)
      · rw [if_neg (c := three x ∧ (rd_T83 kn x.f2).f0 = true ∧ (rd_T83 kn x.f3).f0 = true) (fun h => ca h.2.1)]
        exact ev_neg ca (ev_some rfl)
    · rw [if_neg (c := three x ∧ (rd_T83 kn x.f2).f0 = true ∧ (rd_T83 kn x.f3).f0 = true) (fun h => c3 h.1)]
      exact ev_neg (by simpa using c3) (ev_some rfl)
theorem impl_low (x : S63) (kn : List S83) (s : List Int) (hs : ∀ r ∈ s, 0 ≤ r ∧ r < 4) (hl : s.length ≤ 4) (R : List S83) : ∀ (n i : Nat) (u : List S83), i + n = s.length → u.length = 4 → Ev (fun k => impl_behind.l0 k kn (low u (s.drop i)) s (s.length : Int) (s.length : Int) x.f0 x.f1 x.f2 x.f3 x.f4) R → Ev (fun k => impl_behind.l0 k kn u s (s.length : Int) (i : Int) x.f0 x.f1 x.f2 x.f3 x.f4) R := by
  intro n
  induction n with
  | zero =>
    intro i u hi hu h
    rw [show i = s.length by omega] at h ⊢
    rw [List.drop_length] at h
    exact h
  | succ n ih =>
    intro i u hi hu h
    have hr := hs _ (in_s s i (by omega))
    have e : rd s (i : Int) = s.getD i 0 := by unfold rd; rw [Int.toNat_natCast]
    rw [low_drop u s i (by omega)] at h
    refine Ev.step (fun k => by rw [impl_behind.l0]) ?_
    rw [e]
    refine ev_pos (by omega) (ev_pos (by omega) (ev_pos (by omega) (ev_pos hr.1 (ev_pos (by omega) ?_))))
    rw [w64_nat (by omega)]
    exact ih (i + 1) _ (by omega) (by rw [List.length_set]; exact hu) h
theorem impl_end (x : S63) (hx : Regs x) (kn : List S83) (hk : kn.length = 4) (c1 : ¬ x.f0 = 1) (b : Bool) (hb : b = decide (three x)) : Ev (fun k => impl_behind.j1 k kn (low kn (setsK x)) b x.f0 x.f1 x.f2 x.f3 x.f4) (beh x kn) := by
  have hw : (low kn (setsK x)).length = 4 := (low_len _ _).trans hk
  subst hb
  unfold beh
  rw [if_neg c1]
  refine Ev.step (fun k => by rw [impl_behind.j1]) ?_
  by_cases c3 : three x
  · have h1 := hx.2.1 (.inr c3)
    have h2 := hx.2.2 c3
    refine ev_pos (decide_eq_true c3) (ev_pos h2.1.1 (ev_pos (by omega) ?_))
    by_cases ca : (rd_T83 kn x.f2).f0 = true
    · refine ev_pos ca (ev_pos h2.2.1 (ev_pos (by omega) ?_))
      by_cases cb : (rd_T83 kn x.f3).f0 = true
      · rw [if_pos (c := three x ∧ (rd_T83 kn x.f2).f0 = true ∧ (rd_T83 kn x.f3).f0 = true) ⟨c3, ca, cb⟩]
        exact ev_pos cb (ev_bind0 (compute_comp _ _ _) (ev_pos h1.1 (ev_pos (by omega) (ev_some rfl))))
      · rw [if_neg (c := three x ∧ (rd_T83 kn x.f2).f0 = true ∧ (rd_T83 kn x.f3).f0 = true) (fun h => cb h.2.2)]
        exact ev_neg cb (ev_some rfl)
    · rw [if_neg (c := three x ∧ (rd_T83 kn x.f2).f0 = true ∧ (rd_T83 kn x.f3).f0 = true) (fun h => ca h.2.1)]
      exact ev_neg ca (ev_some rfl)
  · rw [if_neg (c := three x ∧ (rd_T83 kn x.f2).f0 = true ∧ (rd_T83 kn x.f3).f0 = true) (fun h => c3 h.1)]
    exact ev_neg (by simpa using c3) (ev_some rfl)
theorem impl_beh (x : S63) (hx : Regs x) (kn : List S83) (hk : kn.length = 4) : Ev (fun k => impl_behind.f k x.f0 x.f1 x.f2 x.f3 x.f4 kn) (beh x kn) := by
  unfold impl_behind.f
  have hsl : (setsK x).length ≤ 4 := by
    unfold setsK
    split
    · simp
    · split <;> simp
  have hw : (low kn (setsK x)).length = 4 := (low_len _ _).trans hk
  refine ev_bind0 rfl (ev_pos (by rw [List.length_nil]; omega) (Ev.bind (impl_sets x) ?_))
  rw [List.nil_append]
  refine impl_low x kn (setsK x) hx.1 hsl _ (setsK x).length 0 kn (by omega) hk ?_
  rw [List.drop_zero]
  refine Ev.step (fun k => by rw [impl_behind.l0]) (ev_neg (by omega) ?_)
  by_cases c1 : x.f0 = 1
  · have h1 := hx.2.1 (.inl c1)
    refine ev_pos c1 (ev_pos h1.1 (ev_pos (by omega) (ev_some ?_)))
    unfold beh
    rw [if_pos c1]
  · refine ev_neg c1 ?_
    by_cases c2 : x.f0 = 2
    · exact ev_pos c2 (impl_end x hx kn hk c1 _ (by unfold three; simp [c2]))
    · refine ev_neg c2 ?_
      by_cases c3 : x.f0 = 3
      · exact ev_pos c3 (impl_end x hx kn hk c1 _ (by unfold three; simp [c3]))
      · exact ev_neg c3 (impl_end x hx kn hk c1 _ (by unfold three; by_cases c4 : x.f0 = 4 <;> simp [c2, c3, c4]))
end Go.Proofs.Ytocimkpafakiaaa.CoreBehindFnExactFoldBody

namespace Go.Proofs.Ytocimkpafakiaaa.CoreFixFnExactFoldBody
open Go.RowKit Go.Proofs.Ytocimkpafakiaaa.XFnExactFoldBody Go.Proofs.Ytocimkpafakiaaa.Lib Go.Proofs.Ytocimkpafakiaaa.CoreInsFnExactFoldBody Go.Proofs.Ytocimkpafakiaaa.CoreBodyFnExactFoldBody Go.Proofs.Ytocimkpafakiaaa.CoreFlowFnExactFoldBody Go.Proofs.Ytocimkpafakiaaa.CoreSolFnExactFoldBody Go.Proofs.Ytocimkpafakiaaa.CoreBehindFnExactFoldBody Go.Proofs.YtocimkpafakiaaaW.PrintWords Go.Proofs.YtocimkpafakiaaaW.PrintLast Go.Proofs.YtocimkpafakiaaaW.PrintMore
set_option linter.unusedVariables false
set_option linter.unusedSimpArgs false

/-! ### the meet of two rows -/
def tk (x y : S83) : Bool := x.f0 && (!((true) == y.f0) || (!(x.f1 == y.f1)))
theorem mtc_tk (x y : S83) (h : tk x y = true) : mtc x y = ⟨false, 0⟩ := by
  unfold tk at h
  rw [Bool.and_eq_true] at h
  exact if_pos h
theorem mtc_no (x y : S83) (h : tk x y = false) : mtc x y = x := by
  unfold mtc
  rw [if_neg]
  rintro ⟨h1, h2⟩
  unfold tk at h
  rw [h1] at h
  rw [h2] at h
  cases h
def one (x : S83) : Nat := if x.f0 = true then 1 else 0
theorem cnt_cons (x : S83) (t : List S83) : cnt (x :: t) = one x + cnt t := by
  unfold cnt one
  cases c : x.f0 with
  | true => rw [List.filter_cons_of_pos (by simpa using c), List.length_cons, if_pos rfl]; omega
  | false => rw [List.filter_cons_of_neg (by simpa using c), if_neg (by decide)]; omega
theorem one_mtc (x y : S83) : one (mtc x y) + (if tk x y = true then 1 else 0) = one x := by
  cases c : tk x y with
  | true =>
    rw [mtc_tk x y c, if_pos rfl]
    have h : x.f0 = true := by
      unfold tk at c
      rw [Bool.and_eq_true] at c
      exact c.1
    unfold one
    rw [if_pos h]
    rfl
  | false =>
    rw [mtc_no x y c, if_neg (by decide)]
    rfl
/-- Whether a knows less once it met b. -/
def lessb (a b : List S83) : Bool := (((tk (a.getD 0 z83) (b.getD 0 z83) || tk (a.getD 1 z83) (b.getD 1 z83)) || tk (a.getD 2 z83) (b.getD 2 z83)) || tk (a.getD 3 z83) (b.getD 3 z83))
theorem four (a : List S83) (h : a.length = 4) : ∃ a0 a1 a2 a3, a = [a0, a1, a2, a3] := by
  match a, h with
  | [a0, a1, a2, a3], _ => exact ⟨a0, a1, a2, a3, rfl⟩
theorem less_no (a b : List S83) (ha : a.length = 4) (hb : b.length = 4) (h : lessb a b = false) : mt a b = a := by
  obtain ⟨a0, a1, a2, a3, rfl⟩ := four a ha
  obtain ⟨b0, b1, b2, b3, rfl⟩ := four b hb
  have h' : (((tk a0 b0 || tk a1 b1) || tk a2 b2) || tk a3 b3) = false := h
  simp only [Bool.or_eq_false_iff] at h'
  show [mtc a0 b0, mtc a1 b1, mtc a2 b2, mtc a3 b3] = _
  rw [mtc_no _ _ h'.1.1.1, mtc_no _ _ h'.1.1.2, mtc_no _ _ h'.1.2, mtc_no _ _ h'.2]
theorem less_yes (a b : List S83) (ha : a.length = 4) (hb : b.length = 4) (h : lessb a b = true) : cnt (mt a b) < cnt a := by
  obtain ⟨a0, a1, a2, a3, rfl⟩ := four a ha
  obtain ⟨b0, b1, b2, b3, rfl⟩ := four b hb
  have h' : (((tk a0 b0 || tk a1 b1) || tk a2 b2) || tk a3 b3) = true := h
  show cnt [mtc a0 b0, mtc a1 b1, mtc a2 b2, mtc a3 b3] < _
  simp only [cnt_cons]
  have e0 := one_mtc a0 b0
  have e1 := one_mtc a1 b1
  have e2 := one_mtc a2 b2
  have e3 := one_mtc a3 b3
  simp only [Bool.or_eq_true] at h'
  rcases h' with ((h' | h') | h') | h'
  · rw [if_pos h'] at e0; omega
  · rw [if_pos h'] at e1; omega
  · rw [if_pos h'] at e2; omega
  · rw [if_pos h'] at e3; omega
theorem set_get (x : List S83) (i : Nat) (h : i < x.length) : x.set i (x.getD i z83) = x := by
  apply List.ext_getElem?
  intro j
  by_cases e : i = j
  · subst e
    rw [List.getElem?_set_self h, List.getD_eq_getElem?_getD, List.getElem?_eq_getElem h]
    rfl
  · rw [List.getElem?_set_ne e]
theorem rd83 (x : List S83) (i : Nat) : rd_T83 x (i : Int) = x.getD i z83 := by unfold rd_T83; rw [Int.toNat_natCast]
theorem meet_step (x y : List S83) (t : Bool) (i : Nat) (hx : x.length = 4) (hy : y.length = 4) (hi : i < 4) (res : Bool × List S83)
    (h : Ev (fun k => impl_meet.l0 k (x.set i (mtc (x.getD i z83) (y.getD i z83))) y (t || tk (x.getD i z83) (y.getD i z83)) ((i + 1 : Nat) : Int)) res) : Ev (fun k => impl_meet.l0 k x y t (i : Int)) res := by
  refine Ev.step (fun k => by rw [impl_meet.l0]) ?_
  rw [rd83, rd83, w64_nat (by omega), Int.toNat_natCast]
  refine ev_pos (by omega) (ev_pos (by omega) ?_)
  by_cases c : (x.getD i z83).f0 = true
  · refine ev_pos c (ev_pos (by omega) ?_)
    by_cases d : (!((true) == (y.getD i z83).f0) || (!((x.getD i z83).f1 == (y.getD i z83).f1))) = true
    · have tkt : tk (x.getD i z83) (y.getD i z83) = true := by unfold tk; rw [c, d]; rfl
      rw [tkt, mtc_tk _ _ tkt, Bool.or_true] at h
      exact ev_pos d h
    · have tkf : tk (x.getD i z83) (y.getD i z83) = false := by
        rw [Bool.not_eq_true] at d
        unfold tk
        rw [d, Bool.and_false]
      rw [tkf, mtc_no _ _ tkf, Bool.or_false, set_get x i (by omega)] at h
      exact ev_neg d h
  · have tkf : tk (x.getD i z83) (y.getD i z83) = false := by
      rw [Bool.not_eq_true] at c
      unfold tk
      rw [c, Bool.false_and]
    rw [tkf, mtc_no _ _ tkf, Bool.or_false, set_get x i (by omega)] at h
    exact ev_neg c h
theorem impl_meet_ev (a b : List S83) (ha : a.length = 4) (hb : b.length = 4) : Ev (fun k => impl_meet.f k a b) (lessb a b, mt a b) := by
  obtain ⟨a0, a1, a2, a3, rfl⟩ := four a ha
  obtain ⟨b0, b1, b2, b3, rfl⟩ := four b hb
  unfold impl_meet.f
  refine meet_step [a0, a1, a2, a3] [b0, b1, b2, b3] false 0 rfl rfl (by omega) _ ?_
  refine meet_step [mtc a0 b0, a1, a2, a3] [b0, b1, b2, b3] (tk a0 b0) 1 rfl rfl (by omega) _ ?_
  refine meet_step [mtc a0 b0, mtc a1 b1, a2, a3] [b0, b1, b2, b3] (tk a0 b0 || tk a1 b1) 2 rfl rfl (by omega) _ ?_
  refine meet_step [mtc a0 b0, mtc a1 b1, mtc a2 b2, a3] [b0, b1, b2, b3] ((tk a0 b0 || tk a1 b1) || tk a2 b2) 3 rfl rfl (by omega) _ ?_
  show Ev (fun k => impl_meet.l0 k [mtc a0 b0, mtc a1 b1, mtc a2 b2, mtc a3 b3] [b0, b1, b2, b3] (((tk a0 b0 || tk a1 b1) || tk a2 b2) || tk a3 b3) 4) _
  refine Ev.step (fun k => by rw [impl_meet.l0]) ?_
  exact ev_neg (by simp) (ev_some rfl)

/-! ### states -/
def w5 (r : List S83) : Nat := if r.length = 0 then 5 else cnt r
def m5 : List (List S83) → Nat
  | [] => 0
  | r :: t => w5 r + m5 t
theorem m5_set (I : List (List S83)) : ∀ (y : Nat) (v : List S83), y < I.length → m5 (I.set y v) + w5 (I.getD y []) = m5 I + w5 v := by
  induction I with
  | nil => intro y v h; simp at h
  | cons r t ih =>
    intro y v h
    cases y with
    | zero =>
      simp only [List.set_cons_zero, m5, List.getD_cons_zero]
      omega
    | succ y =>
      have := ih y v (by simpa using h)
      simp only [List.set_cons_succ, m5, List.getD_cons_succ]
      omega
theorem m5_le (I : List (List S83)) (h : ∀ r ∈ I, r.length ≤ 4) : m5 I ≤ 5 * I.length := by
  induction I with
  | nil => exact Nat.le_refl _
  | cons r t ih =>
    have h1 := ih (fun x hx => h x (List.mem_cons_of_mem _ hx))
    have h2 := h r (by simp)
    have h3 := cnt_le r
    have : w5 r ≤ 5 := by
      unfold w5
      split <;> omega
    simp only [m5, List.length_cons]
    omega
def st (I : List (List S83)) (a : Nat) : Option (List S83) := if (I.getD a []).length = 0 then none else some (I.getD a [])
theorem st_some {I : List (List S83)} {a : Nat} {u : List S83} (h : st I a = some u) : I.getD a [] = u ∧ (I.getD a []).length ≠ 0 := by
  unfold st at h
  split at h
  · cases h
  · rename_i c
    exact ⟨Option.some.inj h, c⟩
theorem st_of {I : List (List S83)} {a : Nat} (h : (I.getD a []).length ≠ 0) : st I a = some (I.getD a []) := if_neg h
def nbs (l : List S63) (a : Nat) : List Nat := if a < l.length then (nx l (a : Int)).map Int.toNat else []
def trs (l : List S63) (a : Nat) (u : List S83) : List S83 := beh (l.getD a z63) u
def top4 : List S83 := [⟨true, 0⟩, ⟨true, 0⟩, ⟨true, 0⟩, ⟨true, 0⟩]
def GoodI (l : List S63) (I : List (List S83)) : Prop := I.length = l.length ∧ ∀ a, (I.getD a []).length = 0 ∨ Norm (I.getD a [])
def AllAbove (l : List S63) (I : List (List S83)) : Prop := ∀ R, Sol (nbs l) (trs l) top4 R → CoreSolFnExactFoldBody.Rows R → Above (st I) R
def Root (I : List (List S83)) : Prop := (I.getD 0 []).length ≠ 0 ∧ Le (I.getD 0 []) top4
def EdgeOk (l : List S63) (I : List (List S83)) (a : Nat) : Prop := (I.getD a []).length ≠ 0 → ∀ y ∈ nbs l a, (I.getD y []).length ≠ 0 ∧ Le (I.getD y []) (trs l a (I.getD a []))
theorem GoodI.norm {l : List S63} {I : List (List S83)} (h : GoodI l I) {a : Nat} (c : (I.getD a []).length ≠ 0) : Norm (I.getD a []) := (h.2 a).elim (fun e => absurd e c) id
theorem regs_all (l : List S63) (hg : BodyGood l 3) (a : Nat) : Regs (l.getD a z63) := by
  by_cases h : a < l.length
  · have hi := hg.2.2.1 a h
    unfold AtGood InsGood at hi
    generalize l.getD a z63 = x at hi ⊢
    refine ⟨fun r hr => ?_, fun _ => ⟨by omega, by omega⟩, fun _ => ⟨⟨by omega, by omega⟩, by omega, by omega⟩⟩
    unfold setsK at hr
    revert hr
    split
    · intro hr
      simp only [List.mem_singleton] at hr
      omega
    · split
      · intro hr
        simp only [List.mem_cons, List.not_mem_nil, or_false] at hr
        rcases hr with rfl | rfl <;> omega
      · intro hr
        cases hr
  · rw [List.getD_eq_getElem?_getD, List.getElem?_eq_none (by omega)]
    refine ⟨fun r hr => ?_, fun c => ?_, fun c => ?_⟩
    · cases hr
    · exact absurd c (by decide)
    · exact absurd c (by decide)
theorem mono_all (l : List S63) (hg : BodyGood l 3) : Mono (trs l) := fun a u v hu hv h => beh_le _ (regs_all l hg a) u v hu.1 hv.1 h
theorem norm_all (l : List S63) (hg : BodyGood l 3) (a : Nat) (u : List S83) (h : Norm u) : Norm (trs l a u) := beh_norm _ (regs_all l hg a) u h
theorem edge_all (l : List S63) (hg : BodyGood l 3) {I : List (List S83)} (hI : GoodI l I) (hA : AllAbove l I) {a y : Nat} (ha : (I.getD a []).length ≠ 0) (hy : y ∈ nbs l a) : ∀ R, Sol (nbs l) (trs l) top4 R → CoreSolFnExactFoldBody.Rows R → ∃ w, R y = some w ∧ Le w (trs l a (I.getD a [])) :=
  fun R hR nR => edge (mono_all l hg) hR nR (hA R hR nR) (st_of ha) (hI.norm ha) hy
def put (I : List (List S83)) (y : Nat) (out : List S83) : List (List S83) := I.set y (if (I.getD y []).length = 0 then out else mt (I.getD y []) out)
def turn (I : List (List S83)) (y : Nat) (out : List S83) : Bool := if (I.getD y []).length = 0 then true else lessb (I.getD y []) out
theorem put_ne {I : List (List S83)} {y a : Nat} {out : List S83} (h : y ≠ a) : (put I y out).getD a [] = I.getD a [] := L_set_ne _ _ _ _ _ h
theorem put_eq {I : List (List S83)} {y : Nat} {out : List S83} (h : y < I.length) : (put I y out).getD y [] = if (I.getD y []).length = 0 then out else mt (I.getD y []) out := L_set_self _ _ _ _ h
theorem put_norm {l : List S63} {I : List (List S83)} (hI : GoodI l I) {y : Nat} {out : List S83} (hy : y < l.length) (ho : Norm out) : Norm ((put I y out).getD y []) := by
  rw [put_eq (by rw [hI.1]; exact hy)]
  split
  · exact ho
  · rename_i c
    exact mt_norm (hI.norm c) ho.1
theorem put_good {l : List S63} {I : List (List S83)} (hI : GoodI l I) {y : Nat} {out : List S83} (hy : y < l.length) (ho : Norm out) : GoodI l (put I y out) := by
  refine ⟨by unfold put; rw [List.length_set]; exact hI.1, fun a => ?_⟩
  by_cases e : y = a
  · subst e
    exact .inr (put_norm hI hy ho)
  · rw [put_ne e]
    exact hI.2 a
theorem put_above {l : List S63} {I : List (List S83)} (hI : GoodI l I) {y : Nat} {out : List S83} (hy : y < l.length) (ho : Norm out) (hA : AllAbove l I) (H : ∀ R, Sol (nbs l) (trs l) top4 R → CoreSolFnExactFoldBody.Rows R → ∃ w, R y = some w ∧ Le w out) : AllAbove l (put I y out) := by
  intro R hR nR a u hu
  by_cases e : y = a
  · subst e
    obtain ⟨w, hw, hle⟩ := H R hR nR
    have g := (st_some hu).1
    rw [put_eq (by rw [hI.1]; exact hy)] at g
    by_cases c : (I.getD y []).length = 0
    · rw [if_pos c] at g
      exact ⟨w, hw, g ▸ hle⟩
    · rw [if_neg c] at g
      obtain ⟨w2, hw2, h2⟩ := hA R hR nR y _ (st_of c)
      obtain rfl := Option.some.inj (hw.symm.trans hw2)
      exact ⟨w, hw, g ▸ le_mt (hI.norm c).1 ho.1 h2 hle⟩
  · have g : st (put I y out) a = st I a := by unfold st; rw [put_ne e]
    exact hA R hR nR a u (g ▸ hu)
theorem put_falls {l : List S63} {I : List (List S83)} (hI : GoodI l I) {y : Nat} {out : List S83} (hy : y < l.length) (ho : Norm out) (h : turn I y out = true) : m5 (put I y out) < m5 I := by
  have g := m5_set I y (if (I.getD y []).length = 0 then out else mt (I.getD y []) out) (by rw [hI.1]; exact hy)
  unfold turn at h
  unfold put
  by_cases c : (I.getD y []).length = 0
  · rw [if_pos c] at g h ⊢
    have h1 : w5 (I.getD y []) = 5 := if_pos c
    have h2 : w5 out = cnt out := if_neg (by rw [ho.1]; decide)
    have h3 := cnt_le out
    have h4 := ho.1
    omega
  · rw [if_neg c] at g h ⊢
    have hn := hI.norm c
    have h1 : w5 (I.getD y []) = cnt (I.getD y []) := if_neg c
    have h2 : w5 (mt (I.getD y []) out) = cnt (mt (I.getD y []) out) := if_neg (by rw [mt_len _ _ hn.1 ho.1]; decide)
    have h3 := less_yes _ _ hn.1 ho.1 h
    omega
theorem set_getL (x : List (List S83)) (i : Nat) (h : i < x.length) : x.set i (x.getD i []) = x := by
  apply List.ext_getElem?
  intro j
  by_cases e : i = j
  · subst e
    rw [List.getElem?_set_self h, List.getD_eq_getElem?_getD, List.getElem?_eq_getElem h]
    rfl
  · rw [List.getElem?_set_ne e]
theorem put_same {l : List S63} {I : List (List S83)} (hI : GoodI l I) {y : Nat} {out : List S83} (hy : y < l.length) (ho : Norm out) (h : turn I y out = false) : put I y out = I ∧ (I.getD y []).length ≠ 0 ∧ Le (I.getD y []) out := by
  unfold turn at h
  by_cases c : (I.getD y []).length = 0
  · rw [if_pos c] at h
    cases h
  · rw [if_neg c] at h
    have hn := hI.norm c
    have e := less_no _ _ hn.1 ho.1 h
    refine ⟨?_, c, ?_⟩
    · unfold put
      rw [if_neg c, e]
      exact set_getL _ _ (by rw [hI.1]; exact hy)
    · have := mt_le2 hn.1 ho.1 (a := I.getD y []) (b := out)
      rwa [e] at this
theorem put_le {l : List S63} {I : List (List S83)} (hI : GoodI l I) {y : Nat} {out : List S83} (hy : y < l.length) (ho : Norm out) (a : Nat) (c : (I.getD a []).length ≠ 0) : ((put I y out).getD a []).length ≠ 0 ∧ Le ((put I y out).getD a []) (I.getD a []) := by
  by_cases e : y = a
  · subst e
    rw [put_eq (by rw [hI.1]; exact hy), if_neg c]
    have hn := hI.norm c
    exact ⟨by rw [mt_len _ _ hn.1 ho.1]; decide, mt_le hn.1 ho.1⟩
  · rw [put_ne e]
    exact ⟨c, Le.refl _⟩
theorem put_at {l : List S63} {I : List (List S83)} (hI : GoodI l I) {y : Nat} {out : List S83} (hy : y < l.length) (ho : Norm out) : ((put I y out).getD y []).length ≠ 0 ∧ Le ((put I y out).getD y []) out := by
  refine ⟨by rw [(put_norm hI hy ho).1]; decide, ?_⟩
  rw [put_eq (by rw [hI.1]; exact hy)]
  split
  · exact Le.refl _
  · rename_i c
    exact mt_le2 (hI.norm c).1 ho.1
theorem put_root {l : List S63} {I : List (List S83)} (hI : GoodI l I) {y : Nat} {out : List S83} (hy : y < l.length) (ho : Norm out) (h : Root I) : Root (put I y out) :=
  have g := put_le hI hy ho 0 h.1
  ⟨g.1, g.2.trans h.2⟩
theorem sol_of {l : List S63} {I : List (List S83)} (h : Root I) (he : ∀ a, a < l.length → EdgeOk l I a) : Sol (nbs l) (trs l) top4 (st I) := by
  refine ⟨⟨_, st_of h.1, h.2⟩, fun a u ha y hy => ?_⟩
  obtain ⟨rfl, c⟩ := st_some ha
  by_cases hl : a < l.length
  · obtain ⟨h1, h2⟩ := he a hl c y hy
    exact ⟨_, st_of h1, h2⟩
  · unfold nbs at hy
    rw [if_neg hl] at hy
    cases hy
theorem rows_of {l : List S63} {I : List (List S83)} (h : GoodI l I) : CoreSolFnExactFoldBody.Rows (st I) := fun a u hu => by
  obtain ⟨rfl, c⟩ := st_some hu
  exact h.norm c
theorem st_ext {I J : List (List S83)} (hl : I.length = J.length) (h : st I = st J) : I = J := by
  refine List.ext_getElem hl (fun a h1 h2 => ?_)
  have e := congrFun h a
  have g : I.getD a [] = J.getD a [] := by
    unfold st at e
    by_cases c : (I.getD a []).length = 0
    · rw [if_pos c] at e
      by_cases d : (J.getD a []).length = 0
      · rw [List.eq_nil_of_length_eq_zero c, List.eq_nil_of_length_eq_zero d]
      · rw [if_neg d] at e
        cases e
    · rw [if_neg c] at e
      by_cases d : (J.getD a []).length = 0
      · rw [if_pos d] at e
        cases e
      · rw [if_neg d] at e
        exact Option.some.inj e
  rwa [List.getD_eq_getElem?_getD, List.getD_eq_getElem?_getD, List.getElem?_eq_getElem h1, List.getElem?_eq_getElem h2] at g
/-- What both come to is one. -/
def Done (l : List S63) (I : List (List S83)) : Prop := GoodI l I ∧ AllAbove l I ∧ Root I ∧ ∀ a, a < l.length → EdgeOk l I a
theorem done_one {l : List S63} {I J : List (List S83)} (h : Done l I) (g : Done l J) : I = J := by
  refine st_ext (h.1.1.trans g.1.1.symm) ?_
  have sI := sol_of h.2.2.1 h.2.2.2
  have sJ := sol_of g.2.2.1 g.2.2.2
  exact sol_one (rows_of h.1) (rows_of g.1) (h.2.1 _ sJ (rows_of g.1)) (g.2.1 _ sI (rows_of h.1))
def start0 (n : Nat) : List (List S83) := (List.replicate n []).set 0 top4
theorem norm_top : Norm top4 := ⟨rfl, fun r hr => by
  match r, hr with
  | 0, h => cases h
  | 1, h => cases h
  | 2, h => cases h
  | 3, h => cases h
  | r + 4, _ => rfl⟩
theorem start_at (n a : Nat) (h : a ≠ 0) : (start0 n).getD a [] = [] := by
  unfold start0
  rw [L_set_ne _ _ _ _ _ (fun e => h e.symm), List.getD_eq_getElem?_getD, List.getElem?_replicate]
  split <;> rfl
theorem start_zero (n : Nat) (h : 0 < n) : (start0 n).getD 0 [] = top4 := L_set_self _ _ _ _ (by simpa using h)
theorem start_good (l : List S63) (h : 0 < l.length) : GoodI l (start0 l.length) := by
  refine ⟨by simp [start0], fun a => ?_⟩
  by_cases e : a = 0
  · subst e
    rw [start_zero _ h]
    exact .inr norm_top
  · rw [start_at _ _ e]
    exact .inl rfl
theorem start_above (l : List S63) (h : 0 < l.length) : AllAbove l (start0 l.length) := by
  intro R hR nR a u hu
  obtain ⟨rfl, c⟩ := st_some hu
  by_cases e : a = 0
  · subst e
    rw [start_zero _ h]
    exact hR.1
  · rw [start_at _ _ e] at c
    exact absurd rfl c
theorem start_root (n : Nat) (h : 0 < n) : Root (start0 n) := by
  unfold Root
  rw [start_zero _ h]
  exact ⟨by decide, Le.refl _⟩
/-! ### the program's sweeps -/
def SInv (l : List S63) (I0 I : List (List S83)) (c : Bool) (E : Prop) : Prop := GoodI l I ∧ AllAbove l I ∧ Root I ∧ (c = true → m5 I < m5 I0) ∧ (c = false → I = I0 ∧ E)
theorem sinv_put {l : List S63} {I0 I : List (List S83)} {c : Bool} {E : Prop} (h : SInv l I0 I c E) {y : Nat} {out : List S83} (hy : y < l.length) (ho : Norm out) (H : ∀ R, Sol (nbs l) (trs l) top4 R → CoreSolFnExactFoldBody.Rows R → ∃ w, R y = some w ∧ Le w out) : SInv l I0 (put I y out) (c || turn I y out) (E ∧ (I0.getD y []).length ≠ 0 ∧ Le (I0.getD y []) out) := by
  obtain ⟨h1, h2, h3, h4, h5⟩ := h
  refine ⟨put_good h1 hy ho, put_above h1 hy ho h2 H, put_root h1 hy ho h3, fun hc => ?_, fun hc => ?_⟩
  · cases t : turn I y out with
    | true =>
      have := put_falls h1 hy ho t
      cases c with
      | true => have := h4 rfl; omega
      | false => rw [← (h5 rfl).1]; exact this
    | false =>
      rw [t, Bool.or_false] at hc
      rw [(put_same h1 hy ho t).1]
      exact h4 hc
  · rw [Bool.or_eq_false_iff] at hc
    obtain ⟨rfl, hE⟩ := h5 hc.1
    obtain ⟨e1, e2, e3⟩ := put_same h1 hy ho hc.2
    exact ⟨e1, hE, e2, e3⟩
/-! ### what is told at the end -/
def fin1 (r : List S83) : List S83 := if r.length = 0 then List.replicate 4 z83 else r
def some1 (r : List S83) : Bool := !decide (r.length = 0)
end Go.Proofs.Ytocimkpafakiaaa.CoreFixFnExactFoldBody

namespace Go.Proofs.Ytocimkpafakiaaa.CoreKnownFnExactFoldBody
open Go.RowKit Go.Proofs.Ytocimkpafakiaaa.XFnExactFoldBody Go.Proofs.Ytocimkpafakiaaa.Lib Go.Proofs.Ytocimkpafakiaaa.CoreInsFnExactFoldBody Go.Proofs.Ytocimkpafakiaaa.CoreBodyFnExactFoldBody Go.Proofs.Ytocimkpafakiaaa.CoreFlowFnExactFoldBody Go.Proofs.Ytocimkpafakiaaa.CoreSolFnExactFoldBody Go.Proofs.Ytocimkpafakiaaa.CoreBehindFnExactFoldBody Go.Proofs.Ytocimkpafakiaaa.CoreFixFnExactFoldBody Go.Proofs.YtocimkpafakiaaaW.PrintWords Go.Proofs.YtocimkpafakiaaaW.PrintLast Go.Proofs.YtocimkpafakiaaaW.PrintMore
set_option linter.unusedVariables false
set_option linter.unusedSimpArgs false

theorem smeet_step (a b x : List S83) (t : Bool) (i : Nat) (ha : a.length = 4) (hb : b.length = 4) (hx : x.length = 4) (hi : i < 4) (hxi : x.getD i z83 = a.getD i z83) (res : List S83 × Bool)
    (h : Ev (fun k => spec_l19Meet.l0 k a b (x.set i (mtc (a.getD i z83) (b.getD i z83))) (t || tk (a.getD i z83) (b.getD i z83)) ((i + 1 : Nat) : Int)) res) : Ev (fun k => spec_l19Meet.l0 k a b x t (i : Int)) res := by
  refine Ev.step (fun k => by rw [spec_l19Meet.l0]) ?_
  rw [rd83, rd83, w64_nat (by omega), Int.toNat_natCast]
  refine ev_pos (by omega) (ev_pos (by omega) ?_)
  by_cases c : (a.getD i z83).f0 = true
  · refine ev_pos c (ev_pos (by omega) ?_)
    by_cases d : (!((a.getD i z83).f0 == (b.getD i z83).f0) || (!((a.getD i z83).f1 == (b.getD i z83).f1))) = true
    · have tkt : tk (a.getD i z83) (b.getD i z83) = true := by
        have d2 := d
        rw [c] at d2
        unfold tk
        rw [c, d2]
        rfl
      rw [tkt, mtc_tk _ _ tkt, Bool.or_true] at h
      exact ev_pos d (ev_pos (by omega) h)
    · have tkf : tk (a.getD i z83) (b.getD i z83) = false := by
        have d2 := d
        rw [Bool.not_eq_true, c] at d2
        unfold tk
        rw [d2, Bool.and_false]
      rw [tkf, mtc_no _ _ tkf, Bool.or_false, ← hxi, set_get x i (by omega)] at h
      exact ev_neg d h
  · have tkf : tk (a.getD i z83) (b.getD i z83) = false := by
      rw [Bool.not_eq_true] at c
      unfold tk
      rw [c, Bool.false_and]
    rw [tkf, mtc_no _ _ tkf, Bool.or_false, ← hxi, set_get x i (by omega)] at h
    exact ev_neg c h
theorem spec_meet_ev (a b : List S83) (ha : a.length = 4) (hb : b.length = 4) : Ev (fun k => spec_l19Meet.f k a b) (mt a b, lessb a b) := by
  obtain ⟨a0, a1, a2, a3, rfl⟩ := four a ha
  obtain ⟨b0, b1, b2, b3, rfl⟩ := four b hb
  unfold spec_l19Meet.f
  refine ev_bind0 rfl (ev_pos (by simp) ?_)
  refine smeet_step [a0, a1, a2, a3] [b0, b1, b2, b3] [a0, a1, a2, a3] false 0 rfl rfl rfl (by omega) rfl _ ?_
  refine smeet_step [a0, a1, a2, a3] [b0, b1, b2, b3] [mtc a0 b0, a1, a2, a3] (tk a0 b0) 1 rfl rfl rfl (by omega) rfl _ ?_
  refine smeet_step [a0, a1, a2, a3] [b0, b1, b2, b3] [mtc a0 b0, mtc a1 b1, a2, a3] (tk a0 b0 || tk a1 b1) 2 rfl rfl rfl (by omega) rfl _ ?_
  refine smeet_step [a0, a1, a2, a3] [b0, b1, b2, b3] [mtc a0 b0, mtc a1 b1, mtc a2 b2, a3] ((tk a0 b0 || tk a1 b1) || tk a2 b2) 3 rfl rfl rfl (by omega) rfl _ ?_
  show Ev (fun k => spec_l19Meet.l0 k [a0, a1, a2, a3] [b0, b1, b2, b3] [mtc a0 b0, mtc a1 b1, mtc a2 b2, mtc a3 b3] (((tk a0 b0 || tk a1 b1) || tk a2 b2) || tk a3 b3) 4) _
  refine Ev.step (fun k => by rw [spec_l19Meet.l0]) ?_
  exact ev_neg (by simp) (ev_some rfl)

/-! ### the program -/
theorem rdL (I : List (List S83)) (i : Nat) : rd_L5 I (i : Int) = I.getD i [] := by unfold rd_L5; rw [Int.toNat_natCast]
theorem rdI63 (l : List S63) (i : Nat) : rd_T63 l (i : Int) = l.getD i z63 := by unfold rd_T63; rw [Int.toNat_natCast]
theorem drop_rd (q : List Int) (i : Nat) (h : i < q.length) : q.drop i = rd q (i : Int) :: q.drop (i + 1) := by
  rw [List.drop_eq_getElem_cons h, rd_nat, List.getD_eq_getElem?_getD, List.getElem?_eq_getElem h]
  rfl
theorem rd_mem (q : List Int) (i : Nat) (h : i < q.length) : rd q (i : Int) ∈ q := by
  rw [rd_nat, List.getD_eq_getElem?_getD, List.getElem?_eq_getElem h]
  exact List.getElem_mem h
theorem sinv_imp {l : List S63} {I0 I : List (List S83)} {c : Bool} {E E' : Prop} (h : SInv l I0 I c E) (f : E → E') : SInv l I0 I c E' := ⟨h.1, h.2.1, h.2.2.1, h.2.2.2.1, fun e => ⟨(h.2.2.2.2 e).1, f (h.2.2.2.2 e).2⟩⟩
def Over (l : List S63) (q : List Int) (out : List S83) : Prop := ∀ y ∈ q, ∀ R, Sol (nbs l) (trs l) top4 R → CoreSolFnExactFoldBody.Rows R → ∃ w, R y.toNat = some w ∧ Le w out
def OkAt (I : List (List S83)) (out : List S83) (y : Int) : Prop := (I.getD y.toNat []).length ≠ 0 ∧ Le (I.getD y.toNat []) out
theorem impl_inner (l : List S63) (hl : l.length ≤ 1048576) (I0 : List (List S83)) (a : Nat) (q : List Int) (hq : q.length ≤ 100) (hin : ∀ y ∈ q, 0 ≤ y ∧ y < (l.length : Int)) (out : List S83) (ho : Norm out) (H : Over l q out) : ∀ (n j : Nat) (I : List (List S83)) (c : Bool) (E : Prop), j + n = q.length → SInv l I0 I c E →
    ∃ I' c', SInv l I0 I' c' (E ∧ ∀ y ∈ q.drop j, OkAt I0 out y) ∧ ∀ res, Ev (fun k => impl_KnownAt.l1 k l I' c' l (l.length : Int) (wrap64 ((a : Int) + 1))) res → Ev (fun k => impl_KnownAt.l2 k l I c out l (l.length : Int) (a : Int) q (q.length : Int) (j : Int)) res := by
  intro n
  induction n with
  | zero =>
    intro j I c E hj hS
    refine ⟨I, c, sinv_imp hS (fun e => ⟨e, fun y hy => ?_⟩), fun res h => ?_⟩
    · rw [List.drop_of_length_le (by omega)] at hy
      cases hy
    · refine Ev.step (fun k => by rw [impl_KnownAt.l2]) (ev_neg (by omega) h)
  | succ n ih =>
    intro j I c E hj hS
    have hy := hin _ (rd_mem q j (by omega))
    have Hy := H _ (rd_mem q j (by omega))
    have hd := drop_rd q j (by omega)
    obtain ⟨y, hy0⟩ : ∃ y : Nat, rd q (j : Int) = (y : Int) := ⟨(rd q (j : Int)).toNat, by omega⟩
    rw [hy0] at hy Hy hd
    rw [Int.toNat_natCast] at Hy
    have hyl : y < l.length := by omega
    have hIl := hS.1.1
    obtain ⟨I', c', hS', hev⟩ := ih (j + 1) (put I y out) (c || turn I y out) _ (by omega) (sinv_put hS hyl ho Hy)
    refine ⟨I', c', sinv_imp hS' (fun e => ⟨e.1.1, fun z hz => ?_⟩), fun res h => ?_⟩
    · rw [hd] at hz
      rcases List.mem_cons.1 hz with rfl | hz
      · unfold OkAt
        rw [Int.toNat_natCast]
        exact e.1.2
      · exact e.2 z hz
    · have h2 := hev res h
      refine Ev.step (fun k => by rw [impl_KnownAt.l2]) ?_
      rw [hy0, rdL, w64_nat (by omega), Int.toNat_natCast]
      refine ev_pos (by omega) (ev_pos (by omega) (ev_pos (by omega) (ev_pos hy.1 (ev_pos (by omega) ?_))))
      unfold put turn at h2
      by_cases c0 : (I.getD y []).length = 0
      · rw [if_pos c0, if_pos c0, Bool.or_true] at h2
        exact ev_pos (by omega) (ev_bind0 rfl (ev_pos (by rw [List.length_nil, ho.1]; decide) h2))
      · rw [if_neg c0, if_neg c0] at h2
        refine ev_neg (by omega) (Ev.bind (impl_meet_ev _ _ (hS.1.norm c0).1 ho.1) ?_)
        cases c with
        | true =>
          rw [Bool.true_or] at h2
          exact ev_pos rfl h2
        | false =>
          rw [Bool.false_or] at h2
          exact ev_neg (by decide) h2
theorem mem_nbs {l : List S63} {a : Nat} (ha : a < l.length) {y : Nat} : y ∈ nbs l a ↔ ∃ z ∈ nx l (a : Int), z.toNat = y := by
  unfold nbs
  rw [if_pos ha, List.mem_map]
theorem over_all (l : List S63) (hg : BodyGood l 3) {I : List (List S83)} (hI : GoodI l I) (hA : AllAbove l I) {a : Nat} (hl : a < l.length) (ha : (I.getD a []).length ≠ 0) : Over l (nx l (a : Int)) (trs l a (I.getD a [])) :=
  fun y hy => edge_all l hg hI hA ha ((mem_nbs hl).2 ⟨y, hy, rfl⟩)
theorem edge_of {l : List S63} {I : List (List S83)} {a : Nat} (hl : a < l.length) (h : ∀ y ∈ nx l (a : Int), OkAt I (trs l a (I.getD a [])) y) : EdgeOk l I a := by
  intro _ y hy
  obtain ⟨z, hz, rfl⟩ := (mem_nbs hl).1 hy
  exact h z hz
theorem impl_sweep (l : List S63) (hg : BodyGood l 3) (I0 : List (List S83)) : ∀ (n a : Nat) (I : List (List S83)) (c : Bool), a + n = l.length → SInv l I0 I c (∀ b, b < a → EdgeOk l I0 b) →
    ∃ I' c', SInv l I0 I' c' (∀ b, b < l.length → EdgeOk l I0 b) ∧ ∀ res, Ev (fun k => impl_KnownAt.l0 k l I' c') res → Ev (fun k => impl_KnownAt.l1 k l I c l (l.length : Int) (a : Int)) res := by
  have hlen := hg.2.1
  intro n
  induction n with
  | zero =>
    intro a I c ha hS
    refine ⟨I, c, sinv_imp hS (fun e b hb => e b (by omega)), fun res h => ?_⟩
    exact Ev.step (fun k => by rw [impl_KnownAt.l1]) (ev_neg (by omega) h)
  | succ n ih =>
    intro a I c ha hS
    have hal : a < l.length := by omega
    have hIl := hS.1.1
    by_cases c0 : (I.getD a []).length = 0
    · have hS2 : SInv l I0 I c (∀ b, b < a + 1 → EdgeOk l I0 b) := ⟨hS.1, hS.2.1, hS.2.2.1, hS.2.2.2.1, fun e => by
        obtain ⟨e1, e2⟩ := hS.2.2.2.2 e
        refine ⟨e1, fun b hb => ?_⟩
        by_cases g : b = a
        · subst g
          intro g2
          rw [← e1] at g2
          exact absurd c0 g2
        · exact e2 b (by omega)⟩
      obtain ⟨I', c', h1, h2⟩ := ih (a + 1) I c (by omega) hS2
      refine ⟨I', c', h1, fun res h => ?_⟩
      refine Ev.step (fun k => by rw [impl_KnownAt.l1]) ?_
      rw [rdL, w64_nat (by omega)]
      exact ev_pos (by omega) (ev_pos (by omega) (ev_pos (by omega) (ev_pos (by omega) (ev_pos (by omega) (h2 res h)))))
    · have hn := hS.1.norm c0
      have ho := norm_all l hg a _ hn
      have hq := nx_len l (a : Int)
      have hin := nx_in l 3 (a : Int) hg ⟨by omega, by omega⟩
      obtain ⟨I1, c1, g1, g2⟩ := impl_inner l (by omega) I0 a (nx l (a : Int)) (by omega) hin (trs l a (I.getD a [])) ho (over_all l hg hS.1 hS.2.1 hal c0) (nx l (a : Int)).length 0 I c ((∀ b, b < a → EdgeOk l I0 b) ∧ I = I0) (by omega) ⟨hS.1, hS.2.1, hS.2.2.1, hS.2.2.2.1, fun e => ⟨(hS.2.2.2.2 e).1, (hS.2.2.2.2 e).2, (hS.2.2.2.2 e).1⟩⟩
      have hS2 : SInv l I0 I1 c1 (∀ b, b < a + 1 → EdgeOk l I0 b) := sinv_imp g1 (fun e b hb => by
        obtain ⟨⟨e1, e2⟩, e3⟩ := e
        by_cases g : b = a
        · subst g
          rw [e2] at e3
          rw [List.drop_zero] at e3
          exact edge_of hal e3
        · exact e1 b (by omega))
      obtain ⟨I', c', h1, h2⟩ := ih (a + 1) I1 c1 (by omega) hS2
      refine ⟨I', c', h1, fun res h => ?_⟩
      refine Ev.step (fun k => by rw [impl_KnownAt.l1]) ?_
      rw [rdL, rdI63]
      refine ev_pos (by omega) (ev_pos (by omega) (ev_pos (by omega) (ev_pos (by omega) (ev_neg (by omega) ?_))))
      refine Ev.bind (impl_beh _ (regs_all l hg a) _ hn.1) (ev_bind0 (impl_nx l (a : Int) ⟨by omega, by omega⟩) ?_)
      refine g2 res ?_
      rw [w64_nat (by omega)]
      exact h2 res h
theorem fin1_some {r : List S83} (h : r.length ≠ 0) : fin1 r = r := if_neg h
theorem fin1_none {r : List S83} (h : r.length = 0) : fin1 r = List.replicate 4 z83 := if_pos h
theorem impl_last (J : List (List S83)) (hl : J.length ≤ 1048576) : ∀ (n i : Nat) (acc : List (List S83)), i + n = J.length → acc.length = J.length → acc.take i = (J.take i).map fin1 → (∀ b, i ≤ b → acc.getD b [] = J.getD b []) → Ev (fun k => impl_KnownAt.l3 k acc (J.length : Int) (i : Int)) (J.map fin1) := by
  intro n
  induction n with
  | zero =>
    intro i acc hi ha h1 h2
    exact Ev.step (fun k => by rw [impl_KnownAt.l3]) (ev_neg (by omega) (ev_some (copy_end fin1 J acc i (by omega) ha h1)))
  | succ n ih =>
    intro i acc hi ha h1 h2
    have e := h2 i (Nat.le_refl _)
    refine Ev.step (fun k => by rw [impl_KnownAt.l3]) ?_
    rw [rdL, e, w64_nat (by omega), Int.toNat_natCast]
    refine ev_pos (by omega) (ev_pos (by omega) (ev_pos (by omega) ?_))
    have h3 := copy_step fin1 J acc i [] (by omega) ha h1
    by_cases c : (J.getD i []).length = 0
    · rw [fin1_none c] at h3
      exact ev_pos (by omega) (ev_pos (by decide) (ih (i + 1) _ (by omega) (by rw [List.length_set]; exact ha) h3 (fun b hb => by rw [L_set_ne _ _ _ _ _ (by omega)]; exact h2 b (by omega))))
    · rw [fin1_some c, ← e, set_getL acc i (by omega)] at h3
      exact ev_neg (by omega) (ih (i + 1) _ (by omega) ha h3 (fun b hb => h2 b (by omega)))
theorem impl_turn {l : List S63} {I : List (List S83)} {res : List (List S83)} (h : Ev (fun k => impl_KnownAt.l1 k l I false l (l.length : Int) ((0 : Nat) : Int)) res) : Ev (fun k => impl_KnownAt.l0 k l I true) res := by
  refine Ev.step (fun k => by rw [impl_KnownAt.l0]) ?_
  exact ev_pos rfl h
theorem impl_over {l : List S63} {I : List (List S83)} {res : List (List S83)} (h : Ev (fun k => impl_KnownAt.l3 k I (I.length : Int) ((0 : Nat) : Int)) res) : Ev (fun k => impl_KnownAt.l0 k l I false) res := by
  refine Ev.step (fun k => by rw [impl_KnownAt.l0]) ?_
  exact ev_neg (by decide) h
theorem impl_loop (l : List S63) (hg : BodyGood l 3) : ∀ (n : Nat) (I : List (List S83)), GoodI l I → AllAbove l I → Root I → m5 I ≤ n → ∃ J, Done l J ∧ Ev (fun k => impl_KnownAt.l0 k l I true) (J.map fin1) := by
  have hlen := hg.2.1
  intro n
  induction n with
  | zero =>
    intro I h1 h2 h3 hn
    obtain ⟨I', c', hS, hev⟩ := impl_sweep l hg I l.length 0 I false (by omega) ⟨h1, h2, h3, fun e => (by cases e), fun _ => ⟨rfl, fun b hb => absurd hb (Nat.not_lt_zero _)⟩⟩
    cases c' with
    | true =>
      have := hS.2.2.2.1 rfl
      omega
    | false =>
      obtain ⟨rfl, he⟩ := hS.2.2.2.2 rfl
      refine ⟨I', ⟨h1, h2, h3, he⟩, impl_turn (hev _ ?_)⟩
      exact impl_over (impl_last I' (by rw [h1.1]; omega) I'.length 0 I' (by omega) rfl rfl (fun _ _ => rfl))
  | succ n ih =>
    intro I h1 h2 h3 hn
    obtain ⟨I', c', hS, hev⟩ := impl_sweep l hg I l.length 0 I false (by omega) ⟨h1, h2, h3, fun e => (by cases e), fun _ => ⟨rfl, fun b hb => absurd hb (Nat.not_lt_zero _)⟩⟩
    cases c' with
    | true =>
      have := hS.2.2.2.1 rfl
      obtain ⟨J, hJ, hJ2⟩ := ih I' hS.1 hS.2.1 hS.2.2.1 (by omega)
      exact ⟨J, hJ, impl_turn (hev _ hJ2)⟩
    | false =>
      obtain ⟨rfl, he⟩ := hS.2.2.2.2 rfl
      refine ⟨I', ⟨h1, h2, h3, he⟩, impl_turn (hev _ ?_)⟩
      exact impl_over (impl_last I' (by rw [h1.1]; omega) I'.length 0 I' (by omega) rfl rfl (fun _ _ => rfl))

/-! ### the reference -/
theorem edge_put {l : List S63} {I : List (List S83)} (hI : GoodI l I) {y : Nat} {out : List S83} (hy : y < l.length) (ho : Norm out) {b : Nat} (hb : b ≠ y) (h : EdgeOk l I b) : EdgeOk l (put I y out) b := by
  intro c z hz
  rw [put_ne (fun e => hb e.symm)] at c ⊢
  obtain ⟨h1, h2⟩ := h c z hz
  obtain ⟨g1, g2⟩ := put_le hI hy ho z h1
  exact ⟨g1, g2.trans h2⟩
theorem ok_put {l : List S63} {I : List (List S83)} (hI : GoodI l I) {y : Nat} {out : List S83} (hy : y < l.length) (ho : Norm out) {z : Int} (h : OkAt I out z) : OkAt (put I y out) out z := by
  obtain ⟨g1, g2⟩ := put_le hI hy ho z.toNat h.1
  exact ⟨g1, g2.trans h.2⟩
def SP (l : List S63) (I : List (List S83)) (todo : List Int) : Prop := GoodI l I ∧ AllAbove l I ∧ Root I ∧ ∀ y ∈ todo, 0 ≤ y ∧ y < (l.length : Int) ∧ (I.getD y.toNat []).length ≠ 0
theorem sp_put {l : List S63} {I : List (List S83)} {todo : List Int} (h : SP l I todo) {y : Nat} {out : List S83} (hy : y < l.length) (ho : Norm out) (H : ∀ R, Sol (nbs l) (trs l) top4 R → CoreSolFnExactFoldBody.Rows R → ∃ w, R y = some w ∧ Le w out) : SP l (put I y out) (todo ++ [(y : Int)]) := by
  refine ⟨put_good h.1 hy ho, put_above h.1 hy ho h.2.1 H, put_root h.1 hy ho h.2.2.1, fun z hz => ?_⟩
  rcases List.mem_append.1 hz with hz | hz
  · obtain ⟨a, b, c⟩ := h.2.2.2 z hz
    exact ⟨a, b, (put_le h.1 hy ho _ c).1⟩
  · rw [List.mem_singleton] at hz
    subst hz
    rw [Int.toNat_natCast]
    exact ⟨by omega, by omega, (put_at h.1 hy ho).1⟩
theorem some1_at (I : List (List S83)) (y : Nat) (h : y < I.length) : rdOf false (I.map some1) (y : Int) = some1 (I.getD y []) := by
  unfold rdOf
  rw [Int.toNat_natCast, L_getD_map some1 I y [] false h]
theorem fin1_at (I : List (List S83)) (y : Nat) (h : y < I.length) : rd_L5 (I.map fin1) (y : Int) = fin1 (I.getD y []) := by
  unfold rd_L5
  rw [Int.toNat_natCast, L_getD_map fin1 I y [] [] h]
theorem some1_put (I : List (List S83)) (y : Nat) (out : List S83) (hs : ((put I y out).getD y []).length ≠ 0) (hy : y < I.length) : (put I y out).map some1 = (I.map some1).set y true := by
  have e : some1 ((put I y out).getD y []) = true := by unfold some1; rw [decide_eq_false hs]; rfl
  rw [put_eq hy] at e
  unfold put
  rw [List.map_set, e]
theorem fin1_put (I : List (List S83)) (y : Nat) (out : List S83) (hs : ((put I y out).getD y []).length ≠ 0) (hy : y < I.length) : (put I y out).map fin1 = (I.map fin1).set y (if (I.getD y []).length = 0 then out else mt (I.getD y []) out) := by
  have e := fin1_some hs
  rw [put_eq hy] at e
  unfold put
  rw [List.map_set, e]
theorem set_true (x : List Bool) (y : Nat) (h : x.getD y false = true) : x.set y true = x := by
  apply List.ext_getElem?
  intro j
  by_cases e : y = j
  · subst e
    by_cases hl : y < x.length
    · rw [List.getElem?_set_self hl, List.getElem?_eq_getElem hl]
      rw [List.getD_eq_getElem?_getD, List.getElem?_eq_getElem hl] at h
      exact congrArg some h.symm
    · rw [List.set_eq_of_length_le (by omega)]
  · rw [List.getElem?_set_ne e]
theorem spec_inner (l : List S63) (hg : BodyGood l 3) (a : Nat) (hal : a < l.length) (u : List S83) (q : List Int) (hq : q.length ≤ 100) (hin : ∀ y ∈ q, 0 ≤ y ∧ y < (l.length : Int)) (hqa : q = nx l (a : Int)) (out : List S83) (ho : Norm out) (hout : out = trs l a u) (H : Over l q out) (B : Nat) (hB : B ≤ 1048576) : ∀ (n j : Nat) (I : List (List S83)) (todo : List Int), j + n = q.length → SP l I todo →
    (∀ b, b < l.length → b ≠ a → (b : Int) ∉ todo → EdgeOk l I b) → ((a : Int) ∈ todo ∨ (I.getD a [] = u ∧ ∀ y ∈ q.take j, OkAt I out y)) → 2 * m5 I + todo.length ≤ B →
    ∃ I' todo', SP l I' todo' ∧ (∀ b, b < l.length → (b : Int) ∉ todo' → EdgeOk l I' b) ∧ 2 * m5 I' + todo'.length ≤ B ∧ ∀ res, Ev (fun k => spec_KnownAt.l2 k l (I'.map fin1) (I'.map some1) todo') res → Ev (fun k => spec_KnownAt.l3 k l (I.map fin1) (I.map some1) todo out q (j : Int)) res := by
  intro n
  induction n with
  | zero =>
    intro j I todo hj hS hE hA hM
    refine ⟨I, todo, hS, fun b hb hn => ?_, hM, fun res h => Ev.step (fun k => by rw [spec_KnownAt.l3]) (ev_neg (by omega) h)⟩
    by_cases e : b = a
    · subst e
      rcases hA with hA | ⟨e1, e2⟩
      · exact absurd hA hn
      · refine edge_of hb ?_
        rw [e1, ← hout, ← hqa]
        rw [List.take_of_length_le (by omega)] at e2
        exact e2
    · exact hE b hb e hn
  | succ n ih =>
    intro j I todo hj hS hE hA hM
    have hy := hin _ (rd_mem q j (by omega))
    have Hy := H _ (rd_mem q j (by omega))
    have ht : q.take (j + 1) = q.take j ++ [rd q (j : Int)] := by
      rw [L_take_getD q j 0 (by omega), rd_nat]
    obtain ⟨y, hy0⟩ : ∃ y : Nat, rd q (j : Int) = (y : Int) := ⟨(rd q (j : Int)).toNat, by omega⟩
    rw [hy0] at hy Hy ht
    rw [Int.toNat_natCast] at Hy
    have hyl : y < l.length := by omega
    have hIl := hS.1.1
    have hne := (put_at hS.1 hyl ho).1
    have s1 := some1_at I y (by omega)
    have s2 := fin1_at I y (by omega)
    have p1 := some1_put I y out hne (by omega)
    have p2 := fin1_put I y out hne (by omega)
    have head : ∀ res, (Ev (fun k => if some1 (I.getD y []) = true then ((spec_l19Meet.f k (fin1 (I.getD y [])) out).bind fun bt => (if bt.2 = true then (if todo.length < 17592186044416 then (spec_KnownAt.l3 k l ((I.map fin1).set y bt.1) (I.map some1) (todo ++ [(y : Int)]) out q ((j + 1 : Nat) : Int)) else none) else (spec_KnownAt.l3 k l (I.map fin1) (I.map some1) todo out q ((j + 1 : Nat) : Int)))) else ((some ([] : List S83)).bind fun z => (if z.length + out.length < 8796093022208 then (if (y : Int) < ((I.map fin1).length : Int) then (if todo.length < 17592186044416 then (spec_KnownAt.l3 k l ((I.map fin1).set y (z ++ out)) ((I.map some1).set y true) (todo ++ [(y : Int)]) out q ((j + 1 : Nat) : Int)) else none) else none) else none))) res) → Ev (fun k => spec_KnownAt.l3 k l (I.map fin1) (I.map some1) todo out q (j : Int)) res := by
      intro res h
      refine Ev.step (fun k => by rw [spec_KnownAt.l3]) ?_
      rw [hy0, s1, s2, w64_nat (by omega), Int.toNat_natCast]
      refine ev_pos (by omega) (ev_pos (by omega) (ev_pos hy.1 (ev_pos (by rw [List.length_map]; omega) ?_)))
      have hlen : ((y : Int) < ((I.map fin1).length : Int)) := by rw [List.length_map]; omega
      simp only [if_pos hlen]
      simp only [if_pos hlen] at h
      exact h
    cases t : turn I y out with
    | false =>
      obtain ⟨e1, e2, e3⟩ := put_same hS.1 hyl ho t
      obtain ⟨I', todo', r1, r2, r3, r4⟩ := ih (j + 1) I todo (by omega) hS hE (hA.imp id (fun ⟨g1, g2⟩ => ⟨g1, fun z hz => by
        rw [ht] at hz
        rcases List.mem_append.1 hz with hz | hz
        · exact g2 z hz
        · rw [List.mem_singleton] at hz
          subst hz
          unfold OkAt
          rw [Int.toNat_natCast]
          exact ⟨e2, e3⟩⟩)) hM
      refine ⟨I', todo', r1, r2, r3, fun res h => head res ?_⟩
      have hn := hS.1.norm e2
      unfold turn at t
      rw [if_neg e2] at t
      refine ev_pos (by unfold some1; rw [decide_eq_false e2]; rfl) ?_
      rw [fin1_some e2]
      refine Ev.bind (spec_meet_ev _ _ hn.1 ho.1) (ev_neg (by rw [t]; exact Bool.false_ne_true) (r4 res h))
    | true =>
      have hf := put_falls hS.1 hyl ho t
      obtain ⟨I', todo', r1, r2, r3, r4⟩ := ih (j + 1) (put I y out) (todo ++ [(y : Int)]) (by omega) (sp_put hS hyl ho Hy) (fun b hb hba hbt => by
        have hbt1 : (b : Int) ∉ todo := fun g => hbt (List.mem_append.2 (.inl g))
        have hby : b ≠ y := fun g => hbt (List.mem_append.2 (.inr (by rw [g]; exact List.mem_singleton.2 rfl)))
        exact edge_put hS.1 hyl ho hby (hE b hb hba hbt1)) (by
        by_cases ey : y = a
        · exact .inl (List.mem_append.2 (.inr (by rw [ey]; exact List.mem_singleton.2 rfl)))
        · rcases hA with hA | ⟨g1, g2⟩
          · exact .inl (List.mem_append.2 (.inl hA))
          · refine .inr ⟨by rw [put_ne ey]; exact g1, fun z hz => ?_⟩
            rw [ht] at hz
            rcases List.mem_append.1 hz with hz | hz
            · exact ok_put hS.1 hyl ho (g2 z hz)
            · rw [List.mem_singleton] at hz
              subst hz
              unfold OkAt
              rw [Int.toNat_natCast]
              exact put_at hS.1 hyl ho) (by rw [List.length_append, List.length_singleton]; omega)
      refine ⟨I', todo', r1, r2, r3, fun res h => head res ?_⟩
      have r5 := r4 res h
      rw [p1, p2] at r5
      unfold turn at t
      by_cases c0 : (I.getD y []).length = 0
      · rw [if_pos c0] at r5
        exact ev_neg (by unfold some1; rw [decide_eq_true c0]; decide) (ev_bind0 rfl (ev_pos (by rw [List.length_nil, ho.1]; decide) (ev_pos (by rw [List.length_map]; omega) (ev_pos (by omega) r5))))
      · rw [if_neg c0] at r5 t
        have hn := hS.1.norm c0
        have hs1 : some1 (I.getD y []) = true := by unfold some1; rw [decide_eq_false c0]; rfl
        refine ev_pos hs1 ?_
        rw [fin1_some c0]
        rw [set_true (I.map some1) y (by rw [L_getD_map some1 I y [] false (by omega)]; exact hs1)] at r5
        exact Ev.bind (spec_meet_ev _ _ hn.1 ho.1) (ev_pos t (ev_pos (by omega) r5))
theorem spec_loop (l : List S63) (hg : BodyGood l 3) : ∀ (n : Nat) (I : List (List S83)) (todo : List Int), SP l I todo → (∀ b, b < l.length → (b : Int) ∉ todo → EdgeOk l I b) → 2 * m5 I + todo.length ≤ n → n ≤ 1048576 → ∃ J, Done l J ∧ Ev (fun k => spec_KnownAt.l2 k l (I.map fin1) (I.map some1) todo) (J.map fin1) := by
  have hlen := hg.2.1
  intro n
  induction n with
  | zero =>
    intro I todo hS hE hM hn
    obtain rfl : todo = [] := List.eq_nil_of_length_eq_zero (by omega)
    exact ⟨I, ⟨hS.1, hS.2.1, hS.2.2.1, fun b hb => hE b hb (by simp)⟩, Ev.step (fun k => by rw [spec_KnownAt.l2]) (ev_neg (by simp) (ev_some rfl))⟩
  | succ n ih =>
    intro I todo hS hE hM hn
    cases todo with
    | nil => exact ⟨I, ⟨hS.1, hS.2.1, hS.2.2.1, fun b hb => hE b hb (by simp)⟩, Ev.step (fun k => by rw [spec_KnownAt.l2]) (ev_neg (by simp) (ev_some rfl))⟩
    | cons z rest =>
      have hz := hS.2.2.2 z (List.mem_cons_self ..)
      obtain ⟨a, rfl⟩ : ∃ a : Nat, z = (a : Int) := ⟨z.toNat, by omega⟩
      rw [Int.toNat_natCast] at hz
      have hal : a < l.length := by omega
      have hIl := hS.1.1
      have hno := hS.1.norm hz.2.2
      have ho := norm_all l hg a _ hno
      have hq := nx_len l (a : Int)
      have hin := nx_in l 3 (a : Int) hg ⟨by omega, by omega⟩
      rw [List.length_cons] at hM
      obtain ⟨I', todo', r1, r2, r3, r4⟩ := spec_inner l hg a hal (I.getD a []) (nx l (a : Int)) (by omega) hin rfl (trs l a (I.getD a [])) ho rfl (over_all l hg hS.1 hS.2.1 hal hz.2.2) n (by omega) (nx l (a : Int)).length 0 I rest (by omega) ⟨hS.1, hS.2.1, hS.2.2.1, fun y hy => hS.2.2.2 y (List.mem_cons_of_mem _ hy)⟩ (fun b hb hba hbt => hE b hb (fun g => (List.mem_cons.1 g).elim (fun e => hba (by omega)) hbt)) (.inr ⟨rfl, fun y hy => by cases hy⟩) (by omega)
      obtain ⟨J, hJ, hJ2⟩ := ih I' todo' r1 r2 r3 (by omega)
      refine ⟨J, hJ, Ev.step (fun k => by rw [spec_KnownAt.l2]) ?_⟩
      have elen : (((a : Int) :: rest).length : Int) = (rest.length : Int) + 1 := by simp
      have e0 : rd ((a : Int) :: rest) 0 = (a : Int) := rfl
      rw [e0, fin1_at I a (by omega), fin1_some hz.2.2, rdI63]
      refine ev_pos (by omega) (ev_pos (by omega) (ev_bind0 rfl (ev_pos (by omega) (ev_bind0 rfl (ev_pos (by simp; omega) (ev_pos (by omega) (ev_pos (by omega) (ev_pos (by rw [List.length_map]; omega) ?_))))))))
      refine Ev.bind (spec_beh _ (regs_all l hg a) _ hno.1) (Ev.bind (spec_nx l (a : Int) hg ⟨by omega, by omega⟩) ?_)
      exact r4 _ hJ2
theorem spec_rows (l : List S63) (hl : l.length ≤ 1048576) (b : List Bool) (res : List (List S83)) (h : Ev (fun k => spec_KnownAt.l1 k l (List.replicate l.length (List.replicate 4 z83)) b 0) res) : ∀ (n i : Nat), i + n = l.length → Ev (fun k => spec_KnownAt.l0 k l (List.replicate i (List.replicate 4 z83)) b (i : Int)) res := by
  intro n
  induction n with
  | zero =>
    intro i hi
    rw [show i = l.length by omega]
    exact Ev.step (fun k => by rw [spec_KnownAt.l0]) (ev_neg (by omega) h)
  | succ n ih =>
    intro i hi
    have g := ih (i + 1) (by omega)
    refine Ev.step (fun k => by rw [spec_KnownAt.l0]) (ev_pos (by omega) (ev_pos (by decide) (ev_pos (by rw [List.length_replicate]; omega) ?_)))
    rw [w64_nat (by omega), ← List.replicate_succ']
    exact g
theorem spec_top_step (l : List S63) (X : List (List S83)) (hX : 0 < X.length) (b : List Bool) (v : List S83) (hv : v.length = 4) (r : Nat) (hr : r < 4) (res : List (List S83)) (h : Ev (fun k => spec_KnownAt.l1 k l (X.set 0 (v.set r ⟨true, 0⟩)) b ((r + 1 : Nat) : Int)) res) : Ev (fun k => spec_KnownAt.l1 k l (X.set 0 v) b (r : Int)) res := by
  have e : rd_L5 (X.set 0 v) 0 = v := L_set_self _ _ _ _ hX
  refine Ev.step (fun k => by rw [spec_KnownAt.l1]) ?_
  rw [e, w64_nat (by omega), Int.toNat_natCast]
  refine ev_pos (by omega) (ev_pos (by rw [List.length_set]; omega) (ev_pos (by omega) (ev_pos (by omega) ?_)))
  show Ev (fun k => spec_KnownAt.l1 k l ((X.set 0 v).set 0 (v.set r ⟨true, 0⟩)) b ((r + 1 : Nat) : Int)) res
  rw [List.set_set]
  exact h
theorem spec_top (l : List S63) (h1 : 0 < l.length) (res : List (List S83)) (h : Ev (fun k => spec_KnownAt.l2 k l ((start0 l.length).map fin1) ((start0 l.length).map some1) [0]) res) : Ev (fun k => spec_KnownAt.l1 k l (List.replicate l.length (List.replicate 4 z83)) (List.replicate l.length false) 0) res := by
  have hX : 0 < (List.replicate l.length (List.replicate 4 z83)).length := by simpa using h1
  have e : (List.replicate l.length (List.replicate 4 z83)).set 0 [z83, z83, z83, z83] = List.replicate l.length (List.replicate 4 z83) := by
    have := set_getL (List.replicate l.length (List.replicate 4 z83)) 0 hX
    rwa [List.getD_eq_getElem?_getD, List.getElem?_replicate, if_pos h1] at this
  have e1 : (start0 l.length).map fin1 = (List.replicate l.length (List.replicate 4 z83)).set 0 top4 := by
    unfold start0
    rw [List.map_set, List.map_replicate]
    rfl
  have e2 : (start0 l.length).map some1 = (List.replicate l.length false).set 0 true := by
    unfold start0
    rw [List.map_set, List.map_replicate]
    rfl
  rw [e1, e2] at h
  rw [← e]
  refine spec_top_step l _ hX _ [z83, z83, z83, z83] rfl 0 (by omega) _ ?_
  refine spec_top_step l _ hX _ [⟨true, 0⟩, z83, z83, z83] rfl 1 (by omega) _ ?_
  refine spec_top_step l _ hX _ [⟨true, 0⟩, ⟨true, 0⟩, z83, z83] rfl 2 (by omega) _ ?_
  refine spec_top_step l _ hX _ [⟨true, 0⟩, ⟨true, 0⟩, ⟨true, 0⟩, z83] rfl 3 (by omega) _ ?_
  refine Ev.step (fun k => by rw [spec_KnownAt.l1]) (ev_neg (by omega) (ev_pos (by rw [List.length_replicate]; omega) ?_))
  exact h
/-- Both tell the same rows, of four each. -/
theorem known_both (l : List S63) (hl : l.length ≤ 1048576) : ∃ q : List (List S83), Ev (fun k => spec_KnownAt.f k l) q ∧ Ev (fun k => impl_KnownAt.f k l) q ∧ (∀ y ∈ q, y.length = 4) ∧ ((¬ BodyGood l 3 ∧ q = []) ∨ (BodyGood l 3 ∧ q.length = l.length)) := by
  obtain ⟨b, h1, h2, h3⟩ := body_both l 3 hl
  unfold spec_KnownAt.f impl_KnownAt.f
  by_cases hg : BodyGood l 3
  · have hb := h3.2 hg
    subst hb
    have hlen := hg.2.1
    have hp : 0 < l.length := by omega
    obtain ⟨J, hJ, hJ2⟩ := impl_loop l hg (m5 (start0 l.length)) (start0 l.length) (start_good l hp) (start_above l hp) (start_root _ hp) (Nat.le_refl _)
    have hm := m5_le (start0 l.length) (fun r hr => by
      obtain ⟨a, ha, rfl⟩ := List.getElem_of_mem hr
      have := (start_good l hp).2 a
      rw [List.getD_eq_getElem?_getD, List.getElem?_eq_getElem ha] at this
      rcases this with e | e
      · exact Nat.le_trans (Nat.le_of_eq e) (by omega)
      · exact Nat.le_of_eq e.1)
    rw [(start_good l hp).1] at hm
    obtain ⟨J', hJ', hJ2'⟩ := spec_loop l hg (2 * m5 (start0 l.length) + 1) (start0 l.length) [0] ⟨start_good l hp, start_above l hp, start_root _ hp, fun y hy => by
      rw [List.mem_singleton] at hy
      subst hy
      exact ⟨by omega, by omega, (start_root _ hp).1⟩⟩ (fun b hb hn => by
      intro c
      rw [start_at _ _ (fun e => hn (by rw [e]; simp))] at c
      exact absurd rfl c) (by simp) (by omega)
    obtain rfl := done_one hJ hJ'
    refine ⟨J.map fin1, ?_, ?_, fun y hy => ?_, .inr ⟨hg, by rw [List.length_map]; exact hJ.1.1⟩⟩
    · refine ev_bind0 rfl (Ev.bind h1 (ev_pos rfl (ev_pos (by omega) (ev_pos (by omega) ?_))))
      rw [Int.toNat_natCast]
      exact spec_rows l hl _ _ (spec_top l hp _ hJ2') l.length 0 (by omega)
    · refine Ev.bind h2 (ev_pos rfl (ev_pos (by omega) (ev_pos (by omega) (ev_bind0 rfl ?_))))
      rw [Int.toNat_natCast]
      exact ev_pos (by rw [List.length_replicate]; omega) hJ2
    · obtain ⟨r, hr, rfl⟩ := List.mem_map.1 hy
      obtain ⟨a, ha, rfl⟩ := List.getElem_of_mem hr
      have := hJ.1.2 a
      rw [List.getD_eq_getElem?_getD, List.getElem?_eq_getElem ha] at this
      rcases this with e | e
      · have e4 : (J[a]).length = 0 := e
        rw [fin1_none e4]
        rfl
      · have e4 : (J[a]).length = 4 := e.1
        rw [fin1_some (by omega)]
        exact e4
  · have hb : b = false := Bool.eq_false_iff.mpr (fun e => hg (h3.1 e))
    subst hb
    exact ⟨[], ev_bind0 rfl (Ev.bind h1 (ev_neg (by decide) (ev_some rfl))), Ev.bind h2 (ev_neg (by decide) (ev_some rfl)), fun y hy => (by cases hy), .inl ⟨hg, rfl⟩⟩
end Go.Proofs.Ytocimkpafakiaaa.CoreKnownFnExactFoldBody

namespace Go.Proofs.Ytocimkpafakiaaa.CoreFoldOneFnExactFoldBody
open Go.RowKit Go.Proofs.Ytocimkpafakiaaa.XFnExactFoldBody Go.Proofs.Ytocimkpafakiaaa.Lib Go.Proofs.YtocimkpafakiaaaW.PrintWords Go.Proofs.YtocimkpafakiaaaW.PrintLast Go.Proofs.YtocimkpafakiaaaW.PrintMore
set_option linter.unusedVariables false
set_option linter.unusedSimpArgs false

theorem specOf (op a b : Int) : spec_l19Of.f op a b = some (foComp op a b) := by
  unfold spec_l19Of.f foComp spec_l4Bit.f
  by_cases h2 : op = 2
  · rw [if_pos h2, if_pos h2]
  rw [if_neg h2, if_neg h2]
  by_cases h3 : op = 3
  · rw [if_pos h3, if_pos h3]
  rw [if_neg h3, if_neg h3]
  by_cases h : a < b <;> simp [h]
theorem specIn (a lo hi : Int) : spec_l1In.f a lo hi = some (decide (lo ≤ a ∧ a ≤ hi)) := by
  unfold spec_l1In.f
  by_cases h : a ≥ lo
  · rw [if_pos h]
    have h' : lo ≤ a := h
    simp [h']
  · rw [if_neg h]
    have h' : ¬ lo ≤ a := h
    simp [h']
theorem specThree (op : Int) : spec_l19Three.f op = some (decide (op = 2 ∨ op = 3 ∨ op = 4)) := by
  unfold spec_l19Three.f
  by_cases h2 : op = 2
  · simp [h2]
  by_cases h3 : op = 3
  · simp [h3]
  by_cases h4 : op = 4 <;> simp [h2, h3, h4]
theorem spec_fold (x0 x1 x2 x3 x4 : Int) (l : List S83) (a2 : Int) : Ev (fun k => spec_FoldOne.f k x0 x1 x2 x3 x4 l a2) (foG x0 x1 x2 x3 x4 l a2) := by
  refine ⟨4, fun k hk => ?_⟩
  obtain ⟨n, rfl⟩ : ∃ n, k = n + 1 + 1 + 1 + 1 := ⟨k - 4, by omega⟩
  simp only [spec_FoldOne.f, foG, specIn, Option.bind_some]
  by_cases hl : (l.length : Int) = 4
  case neg => simp [spec_FoldOne.j0, hl]
  by_cases hA : (0 ≤ x2 ∧ x2 ≤ 3)
  case neg => simp [spec_FoldOne.j0, hl, hA]
  by_cases hB : (0 ≤ x3 ∧ x3 ≤ 3)
  case neg => simp [spec_FoldOne.j0, hl, hA, hB]
  have a0 : 0 ≤ x2 := hA.1
  have a1 : x2 < (l.length : Int) := by omega
  have b0 : 0 ≤ x3 := hB.1
  have b1 : x3 < (l.length : Int) := by omega
  have e1 : (decide (0 ≤ x2 ∧ x2 ≤ 3)) = true := decide_eq_true hA
  have e2 : (decide (0 ≤ x3 ∧ x3 ≤ 3)) = true := decide_eq_true hB
  simp only [spec_FoldOne.j0, spec_FoldOne.j1, spec_FoldOne.j2, spec_FoldOne.j3, specThree, specOf, specIn, Option.bind_some, if_pos a0, if_pos a1, if_pos b0, if_pos b1, if_pos hl, e1, e2, if_true, Bool.not_true, Bool.false_eq_true, if_false, decide_eq_true_eq]
  by_cases hK : (rd_T83 l x2).f0 = true
  case neg =>
    simp only [if_neg hK]
    simp [hK]
  simp only [if_pos hK]
  rw [if_pos (show (l.length : Int) = 4 ∧ (0 ≤ x2 ∧ x2 ≤ 3) ∧ (0 ≤ x3 ∧ x3 ≤ 3) ∧ (rd_T83 l x2).f0 = true from ⟨hl, hA, hB, hK⟩)]
  by_cases ho : x0 = 2 ∨ x0 = 3 ∨ x0 = 4
  · simp only [if_pos ho, if_neg (show ¬ x0 = 12 by omega)]
    by_cases hb : (rd_T83 l x3).f0 = true
    · simp only [hb, true_and, if_true]
      split <;> rfl
    · simp only [if_neg hb, hb, false_and]
      rfl
  · simp only [if_neg ho]
    by_cases h12 : x0 = 12
    · simp only [if_pos h12]
      split <;> rfl
    · simp only [if_neg h12]
end Go.Proofs.Ytocimkpafakiaaa.CoreFoldOneFnExactFoldBody
