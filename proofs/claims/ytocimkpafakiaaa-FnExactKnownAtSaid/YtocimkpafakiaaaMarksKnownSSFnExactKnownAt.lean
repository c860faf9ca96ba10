/- What a mark of known ones leaves, and that it is found so again; for all rows of up to a trillion. -/
import Derived.Test.YtocimkpafakiaaaWalkFnExactKnownAt
import Derived.Test.YtocimkpafakiaaaLib
namespace Go.Proofs.Ytocimkpafakiaaa.MarksKnownFnExactKnownAt
open Go.RowKit Go.Proofs.Ytocimkpafakiaaa.XFnExactKnownAt Go.Proofs.Ytocimkpafakiaaa.Lib Go.Proofs.YtocimkpafakiaaaW.PrintWords Go.Proofs.YtocimkpafakiaaaW.PrintLast Go.Proofs.YtocimkpafakiaaaW.PrintMore
set_option linter.unusedVariables false
set_option linter.unusedSimpArgs false

def mKn (v : Int) : S83 := ⟨(Int.tmod v 3) == 0, v + 1⟩
def isKn (v : Int) (ys : List S83) : Prop := ∀ j : Nat, j < ys.length → ys.getD j z83 = mKn (v + 2 * (j : Int))
theorem markKn_l (k0 : Int) (h0 : 0 ≤ k0) (hk : k0 ≤ 4611686018427387904) : ∀ (n i : Nat) (x : List S83), i + n = x.length → x.length ≤ 1099511627776 → (∀ j : Nat, j < i → x.getD j z83 = mKn (k0 + 2 * (j : Int))) → ∃ ys : List S83, Ev (fun k => laws_markKnownS.l0 k x (k0 + 2 * (i : Int)) i) (k0 + 2 * (x.length : Int), ys) ∧ ys.length = x.length ∧ isKn k0 ys := by
  intro n
  induction n with
  | zero =>
    intro i x hi hl h
    refine ⟨x, Ev.step (f := fun _ => some (k0 + 2 * (x.length : Int), x)) (fun k => ?_) (ev_some rfl), rfl, fun j hj => h j (by omega)⟩
    simp only [laws_markKnownS.l0]
    rw [if_neg (by omega), show i = x.length by omega]
  | succ n ih =>
    intro i x hi hl h
    obtain ⟨ys, hy, hyl, hm⟩ := ih (i + 1) (x.set i (mKn (k0 + 2 * (i : Int)))) (by simp; omega) (by simpa using hl) (fun j hj => by
      by_cases e : j = i
      · subst e
        exact L_set_self _ _ _ _ (by omega)
      · rw [L_set_ne _ _ _ _ _ (by omega)]
        exact h j (by omega))
    rw [List.length_set] at hy hyl
    refine ⟨ys, Ev.step (fun k => ?_) hy, hyl, hm⟩
    have e0 : wrap64 (k0 + 2 * (i : Int) + 1) = k0 + 2 * (i : Int) + 1 := w64 (by omega) (by omega)
    have e1 : wrap64 (k0 + 2 * (i : Int) + 1 + 1) = k0 + 2 * (i : Int) + 2 := by rw [w64 (by omega) (by omega)]; omega
    simp only [laws_markKnownS.l0]
    rw [if_pos (by omega), if_pos (by omega), w64_nat (by omega)]
    simp only [Int.toNat_natCast, Option.bind_some, rd_T83, e0, e1]
    rw [show k0 + 2 * ((i + 1 : Nat) : Int) = k0 + 2 * (i : Int) + 2 by omega]
    simp [mKn, List.getD_eq_getElem?_getD, List.set_set, show i < x.length by omega]
theorem markKn_ev (k0 : Int) (h0 : 0 ≤ k0) (hk : k0 ≤ 4611686018427387904) (x : List S83) (hx : x.length ≤ 1099511627776) : ∃ ys : List S83, Ev (fun k => laws_markKnownS.f k x k0) (k0 + 2 * (x.length : Int), ys) ∧ ys.length = x.length ∧ isKn k0 ys := by
  obtain ⟨ys, h, h2⟩ := markKn_l k0 h0 hk x.length 0 x (by omega) hx (fun j hj => by omega)
  refine ⟨ys, ?_, h2⟩
  unfold laws_markKnownS.f
  simpa using h
theorem heldKn_l (v : Int) (h0 : 0 ≤ v) (hv : v ≤ 4611686018427387904) (x : List S83) (hx : x.length ≤ 1099511627776) (hm : isKn v x) : ∀ (n i : Nat), i + n = x.length → Ev (fun k => laws_heldKnownS.l0 k x (v + 2 * (i : Int)) i) (v + 2 * (x.length : Int)) := by
  intro n
  induction n with
  | zero =>
    intro i hi
    refine Ev.step (f := fun _ => some (v + 2 * (x.length : Int))) (fun k => ?_) (ev_some rfl)
    simp only [laws_heldKnownS.l0]
    rw [if_neg (by omega), show i = x.length by omega]
  | succ n ih =>
    intro i hi
    refine Ev.step (fun k => ?_) (ih (i + 1) (by omega))
    have hrd : rd_T83 x (i : Int) = mKn (v + 2 * (i : Int)) := by
      unfold rd_T83
      rw [Int.toNat_natCast]
      exact hm i (by omega)
    have e0 : wrap64 (v + 2 * (i : Int) + 1) = v + 2 * (i : Int) + 1 := w64 (by omega) (by omega)
    have e1 : wrap64 (v + 2 * (i : Int) + 1 + 1) = v + 2 * (i : Int) + 2 := by rw [w64 (by omega) (by omega)]; omega
    simp only [laws_heldKnownS.l0, hrd, mKn, e0, e1]
    rw [if_pos (by omega), if_pos (by omega), if_neg (by simp), if_pos trivial, w64_nat (by omega)]
    rw [show v + 2 * ((i + 1 : Nat) : Int) = v + 2 * (i : Int) + 2 by omega]
theorem heldKn_ev (v : Int) (h0 : 0 ≤ v) (hv : v ≤ 4611686018427387904) (x : List S83) (hx : x.length ≤ 1099511627776) (hm : isKn v x) : Ev (fun k => laws_heldKnownS.f k x v) (v + 2 * (x.length : Int)) := by
  unfold laws_heldKnownS.f
  simpa using heldKn_l v h0 hv x hx hm x.length 0 (by omega)
end Go.Proofs.Ytocimkpafakiaaa.MarksKnownFnExactKnownAt

namespace Go.Proofs.Ytocimkpafakiaaa.MarksKnownSSFnExactKnownAt
open Go.RowKit Go.Proofs.Ytocimkpafakiaaa.XFnExactKnownAt Go.Proofs.Ytocimkpafakiaaa.Lib Go.Proofs.Ytocimkpafakiaaa.MarksKnownFnExactKnownAt Go.Proofs.YtocimkpafakiaaaW.PrintWords Go.Proofs.YtocimkpafakiaaaW.PrintLast Go.Proofs.YtocimkpafakiaaaW.PrintMore
set_option linter.unusedVariables false
set_option linter.unusedSimpArgs false

def tot : List (List S83) → Int
  | [] => 0
  | y :: r => 2 * (y.length : Int) + tot r
theorem tot_le (r : List (List S83)) (h : ∀ y ∈ r, y.length ≤ 4) : 0 ≤ tot r ∧ tot r ≤ 8 * (r.length : Int) := by
  induction r with
  | nil => exact ⟨Int.le_refl _, Int.le_refl _⟩
  | cons y r ih =>
    have h1 := h y (by simp)
    have h2 := ih (fun z hz => h z (List.mem_cons_of_mem _ hz))
    simp only [tot, List.length_cons]
    omega
theorem getD_mid (pre rest : List (List S83)) (y : List S83) : (pre ++ y :: rest).getD pre.length [] = y := by
  rw [List.getD_eq_getElem?_getD, List.getElem?_append_right (Nat.le_refl _), Nat.sub_self]
  rfl
theorem set_mid (pre rest : List (List S83)) (y z : List S83) : (pre ++ y :: rest).set pre.length z = (pre ++ [z]) ++ rest := by
  rw [List.set_append_right _ _ (Nat.le_refl _), Nat.sub_self]
  simp
theorem marks_l : ∀ (rest pre : List (List S83)) (v : Int), pre.length + rest.length ≤ 1048576 → (∀ y ∈ rest, y.length ≤ 4) → 0 ≤ v → v ≤ 1 + 8 * (pre.length : Int) →
    ∃ zs : List (List S83), Ev (fun k => laws_markKnownSS.l0 k (pre ++ rest) v (pre.length : Int)) (v + tot rest, pre ++ zs) ∧ ∀ pre' : List (List S83), pre'.length = pre.length → Ev (fun k => laws_heldKnownSS.l0 k (pre' ++ zs) v (pre'.length : Int)) (v + tot rest) := by
  intro rest
  induction rest with
  | nil =>
    intro pre v hl hy h0 hv
    refine ⟨[], Ev.step (f := fun _ => some (v + tot [], pre ++ [])) (fun k => ?_) (ev_some rfl), fun pre' hp => Ev.step (f := fun _ => some (v + tot [])) (fun k => ?_) (ev_some rfl)⟩
    · rw [laws_markKnownSS.l0, if_neg (by simp)]
      simp [tot]
    · rw [laws_heldKnownSS.l0, if_neg (by simp)]
      simp [tot]
  | cons y rest ih =>
    intro pre v hl hy h0 hv
    simp only [List.length_cons] at hl
    have h4 := hy y (by simp)
    obtain ⟨ys, m1, m2, m3⟩ := markKn_ev v h0 (by omega) y (by omega)
    have hh := heldKn_ev v h0 (by omega) ys (by omega) m3
    rw [m2] at hh
    obtain ⟨zs, g1, g2⟩ := ih (pre ++ [ys]) (v + 2 * (y.length : Int)) (by simp; omega) (fun z hz => hy z (List.mem_cons_of_mem _ hz)) (by omega) (by simp; omega)
    have e : v + tot (y :: rest) = v + 2 * (y.length : Int) + tot rest := by simp only [tot]; omega
    refine ⟨ys :: zs, ?_, fun pre' hp => ?_⟩
    · refine Ev.step (fun k => by rw [laws_markKnownSS.l0, if_pos (by simp; omega), if_pos (by omega), Int.toNat_natCast, getD_mid]) ?_
      refine Ev.bind m1 ?_
      rw [w64_nat (by omega), e]
      show Ev (fun n => laws_markKnownSS.l0 n ((pre ++ y :: rest).set pre.length ys) (v + 2 * (y.length : Int)) ((pre.length + 1 : Nat) : Int)) _
      rw [set_mid]
      have g3 := g1
      rw [List.length_append, List.length_singleton, List.append_assoc pre [ys] zs] at g3
      exact g3
    · refine Ev.step (fun k => by rw [laws_heldKnownSS.l0, if_pos (by simp; omega), if_pos (by omega)]) ?_
      have r : rd_L5 (pre' ++ ys :: zs) (pre'.length : Int) = ys := by
        unfold rd_L5
        rw [Int.toNat_natCast, getD_mid]
      rw [r]
      refine Ev.bind hh (ev_neg (by omega) ?_)
      rw [w64_nat (by omega), e]
      have g3 := g2 (pre' ++ [ys]) (by simp [hp])
      rw [List.length_append, List.length_singleton, List.append_assoc] at g3
      exact g3
theorem marks_ev (q : List (List S83)) (hl : q.length ≤ 1048576) (hy : ∀ y ∈ q, y.length ≤ 4) : ∃ (m : Int) (zs : List (List S83)), 0 ≤ m ∧ Ev (fun k => laws_markKnownSS.f k q 1) (m, zs) ∧ Ev (fun k => laws_heldKnownSS.f k zs 1) m := by
  obtain ⟨zs, h1, h2⟩ := marks_l q [] 1 (by simpa using hl) hy (by omega) (by simp)
  have ht := tot_le q hy
  refine ⟨1 + tot q, zs, by omega, ?_, ?_⟩
  · unfold laws_markKnownSS.f
    exact h1
  · unfold laws_heldKnownSS.f
    exact h2 [] rfl
end Go.Proofs.Ytocimkpafakiaaa.MarksKnownSSFnExactKnownAt
