/- What a mark of numbers leaves, and that it is found so again; for all rows of up to a trillion. -/
import Derived.Test.YtocimkpafakiaaaWalkFnExactTrimProg
import Derived.Test.YtocimkpafakiaaaLib
namespace Go.Proofs.Ytocimkpafakiaaa.MarksIntFnExactTrimProg
open Go.RowKit Go.Proofs.Ytocimkpafakiaaa.XFnExactTrimProg Go.Proofs.Ytocimkpafakiaaa.Lib Go.Proofs.YtocimkpafakiaaaW.PrintWords Go.Proofs.YtocimkpafakiaaaW.PrintLast Go.Proofs.YtocimkpafakiaaaW.PrintMore
set_option linter.unusedVariables false
set_option linter.unusedSimpArgs false

def isInts (v : Int) (ys : List Int) : Prop := ∀ j : Nat, j < ys.length → ys.getD j 0 = v + (j : Int)
theorem markInts_l (v : Int) (h0 : 0 ≤ v) (hv : v ≤ 4611686018427387904) : ∀ (n i : Nat) (x : List Int), i + n = x.length → x.length ≤ 1099511627776 → (∀ j : Nat, j < i → x.getD j 0 = v + (j : Int)) → ∃ ys : List Int, Ev (fun k => laws_markIntS.l0 k x (v + (i : Int)) i) (v + (x.length : Int), ys) ∧ ys.length = x.length ∧ isInts v ys := by
  intro n
  induction n with
  | zero =>
    intro i x hi hl h
    refine ⟨x, Ev.step (f := fun _ => some (v + (x.length : Int), x)) (fun k => ?_) (ev_some rfl), rfl, fun j hj => h j (by omega)⟩
    simp only [laws_markIntS.l0]
    rw [if_neg (by omega), show i = x.length by omega]
  | succ n ih =>
    intro i x hi hl h
    obtain ⟨ys, hy, hyl, hm⟩ := ih (i + 1) (x.set i (v + (i : Int))) (by simp; omega) (by simpa using hl) (fun j hj => by
      by_cases e : j = i
      · subst e
        exact L_set_self _ _ _ _ (by omega)
      · rw [L_set_ne _ _ _ _ _ (by omega)]
        exact h j (by omega))
    rw [List.length_set] at hy hyl
    refine ⟨ys, Ev.step (fun k => ?_) hy, hyl, hm⟩
    simp only [laws_markIntS.l0]
    rw [if_pos (by omega), if_pos (by omega), w64_nat (by omega), w64 (by omega) (by omega), Int.toNat_natCast]
    rw [show v + ((i + 1 : Nat) : Int) = v + (i : Int) + 1 by omega]
theorem markInts_ev (v : Int) (h0 : 0 ≤ v) (hv : v ≤ 4611686018427387904) (x : List Int) (hx : x.length ≤ 1099511627776) : ∃ ys : List Int, Ev (fun k => laws_markIntS.f k x v) (v + (x.length : Int), ys) ∧ ys.length = x.length ∧ isInts v ys := by
  obtain ⟨ys, h, h2⟩ := markInts_l v h0 hv x.length 0 x (by omega) hx (fun j hj => by omega)
  refine ⟨ys, ?_, h2⟩
  unfold laws_markIntS.f
  simpa using h
theorem heldInts_l (v : Int) (h0 : 0 ≤ v) (hv : v ≤ 4611686018427387904) (x : List Int) (hx : x.length ≤ 1099511627776) (hm : isInts v x) : ∀ (n i : Nat), i + n = x.length → Ev (fun k => laws_heldIntS.l0 k x (v + (i : Int)) i) (v + (x.length : Int)) := by
  intro n
  induction n with
  | zero =>
    intro i hi
    refine Ev.step (f := fun _ => some (v + (x.length : Int))) (fun k => ?_) (ev_some rfl)
    simp only [laws_heldIntS.l0]
    rw [if_neg (by omega), show i = x.length by omega]
  | succ n ih =>
    intro i hi
    refine Ev.step (fun k => ?_) (ih (i + 1) (by omega))
    have hi' := hm i (by omega)
    simp only [laws_heldIntS.l0]
    rw [if_pos (by omega), if_pos (by omega), rd_nat, if_pos hi', w64_nat (by omega), w64 (by omega) (by omega)]
    rw [show v + ((i + 1 : Nat) : Int) = v + (i : Int) + 1 by omega]
theorem heldInts_ev (v : Int) (h0 : 0 ≤ v) (hv : v ≤ 4611686018427387904) (x : List Int) (hx : x.length ≤ 1099511627776) (hm : isInts v x) : Ev (fun k => laws_heldIntS.f k x v) (v + (x.length : Int)) := by
  unfold laws_heldIntS.f
  simpa using heldInts_l v h0 hv x hx hm x.length 0 (by omega)
end Go.Proofs.Ytocimkpafakiaaa.MarksIntFnExactTrimProg

namespace Go.Proofs.Ytocimkpafakiaaa.MarksInsFnExactTrimProg
open Go.RowKit Go.Proofs.Ytocimkpafakiaaa.XFnExactTrimProg Go.Proofs.Ytocimkpafakiaaa.Lib Go.Proofs.YtocimkpafakiaaaW.PrintWords Go.Proofs.YtocimkpafakiaaaW.PrintLast Go.Proofs.YtocimkpafakiaaaW.PrintMore
set_option linter.unusedVariables false
set_option linter.unusedSimpArgs false

def mIns (v : Int) : S63 := ⟨v, v + 1, v + 2, v + 3, v + 4⟩
def isIns (v : Int) (ys : List S63) : Prop := ∀ j : Nat, j < ys.length → ys.getD j z63 = mIns (v + 5 * (j : Int))
theorem markIns_l (k0 : Int) (h0 : 0 ≤ k0) (hk : k0 ≤ 4611686018427387904) : ∀ (n i : Nat) (x : List S63), i + n = x.length → x.length ≤ 1099511627776 → (∀ j : Nat, j < i → x.getD j z63 = mIns (k0 + 5 * (j : Int))) → ∃ ys : List S63, Ev (fun k => laws_markInsS.l0 k x (k0 + 5 * (i : Int)) i) (k0 + 5 * (x.length : Int), ys) ∧ ys.length = x.length ∧ isIns k0 ys := by
  intro n
  induction n with
  | zero =>
    intro i x hi hl h
    refine ⟨x, Ev.step (f := fun _ => some (k0 + 5 * (x.length : Int), x)) (fun k => ?_) (ev_some rfl), rfl, fun j hj => h j (by omega)⟩
    simp only [laws_markInsS.l0]
    rw [if_neg (by omega), show i = x.length by omega]
  | succ n ih =>
    intro i x hi hl h
    obtain ⟨ys, hy, hyl, hm⟩ := ih (i + 1) (x.set i (mIns (k0 + 5 * (i : Int)))) (by simp; omega) (by simpa using hl) (fun j hj => by
      by_cases e : j = i
      · subst e
        exact L_set_self _ _ _ _ (by omega)
      · rw [L_set_ne _ _ _ _ _ (by omega)]
        exact h j (by omega))
    rw [List.length_set] at hy hyl
    refine ⟨ys, Ev.step (fun k => ?_) hy, hyl, hm⟩
    have e0 : wrap64 (k0 + 5 * (i : Int) + 1) = k0 + 5 * (i : Int) + 1 := w64 (by omega) (by omega)
    have e1 : wrap64 (k0 + 5 * (i : Int) + 1 + 1) = k0 + 5 * (i : Int) + 2 := by rw [w64 (by omega) (by omega)]; omega
    have e2 : wrap64 (k0 + 5 * (i : Int) + 2 + 1) = k0 + 5 * (i : Int) + 3 := by rw [w64 (by omega) (by omega)]; omega
    have e3 : wrap64 (k0 + 5 * (i : Int) + 3 + 1) = k0 + 5 * (i : Int) + 4 := by rw [w64 (by omega) (by omega)]; omega
    have e4 : wrap64 (k0 + 5 * (i : Int) + 4 + 1) = k0 + 5 * (i : Int) + 5 := by rw [w64 (by omega) (by omega)]; omega
    simp only [laws_markInsS.l0]
    rw [if_pos (by omega), if_pos (by omega), w64_nat (by omega)]
    simp only [Int.toNat_natCast, Option.bind_some, rd_T63, e0, e1, e2, e3, e4]
    rw [show k0 + 5 * ((i + 1 : Nat) : Int) = k0 + 5 * (i : Int) + 5 by omega]
    simp [mIns, List.getD_eq_getElem?_getD, List.set_set, show i < x.length by omega]
theorem markIns_ev (k0 : Int) (h0 : 0 ≤ k0) (hk : k0 ≤ 4611686018427387904) (x : List S63) (hx : x.length ≤ 1099511627776) : ∃ ys : List S63, Ev (fun k => laws_markInsS.f k x k0) (k0 + 5 * (x.length : Int), ys) ∧ ys.length = x.length ∧ isIns k0 ys := by
  obtain ⟨ys, h, h2⟩ := markIns_l k0 h0 hk x.length 0 x (by omega) hx (fun j hj => by omega)
  refine ⟨ys, ?_, h2⟩
  unfold laws_markInsS.f
  simpa using h
theorem heldIns_l (v : Int) (h0 : 0 ≤ v) (hv : v ≤ 4611686018427387904) (x : List S63) (hx : x.length ≤ 1099511627776) (hm : isIns v x) : ∀ (n i : Nat), i + n = x.length → Ev (fun k => laws_heldInsS.l0 k x (v + 5 * (i : Int)) i) (v + 5 * (x.length : Int)) := by
  intro n
  induction n with
  | zero =>
    intro i hi
    refine Ev.step (f := fun _ => some (v + 5 * (x.length : Int))) (fun k => ?_) (ev_some rfl)
    simp only [laws_heldInsS.l0]
    rw [if_neg (by omega), show i = x.length by omega]
  | succ n ih =>
    intro i hi
    refine Ev.step (fun k => ?_) (ih (i + 1) (by omega))
    have hi' := hm i (by omega)
    have hrd : rd_T63 x (i : Int) = mIns (v + 5 * (i : Int)) := by
      unfold rd_T63
      rw [Int.toNat_natCast]
      exact hi'
    have e0 : wrap64 (v + 5 * (i : Int) + 1) = v + 5 * (i : Int) + 1 := w64 (by omega) (by omega)
    have e1 : wrap64 (v + 5 * (i : Int) + 1 + 1) = v + 5 * (i : Int) + 2 := by rw [w64 (by omega) (by omega)]; omega
    have e2 : wrap64 (v + 5 * (i : Int) + 2 + 1) = v + 5 * (i : Int) + 3 := by rw [w64 (by omega) (by omega)]; omega
    have e3 : wrap64 (v + 5 * (i : Int) + 3 + 1) = v + 5 * (i : Int) + 4 := by rw [w64 (by omega) (by omega)]; omega
    have e4 : wrap64 (v + 5 * (i : Int) + 4 + 1) = v + 5 * (i : Int) + 5 := by rw [w64 (by omega) (by omega)]; omega
    simp only [laws_heldInsS.l0, hrd, mIns, e0, e1, e2, e3, e4]
    rw [if_pos (by omega), if_pos (by omega), if_pos trivial, if_pos trivial, if_pos trivial, if_pos trivial, if_pos trivial, w64_nat (by omega)]
    rw [show v + 5 * ((i + 1 : Nat) : Int) = v + 5 * (i : Int) + 5 by omega]
theorem heldIns_ev (v : Int) (h0 : 0 ≤ v) (hv : v ≤ 4611686018427387904) (x : List S63) (hx : x.length ≤ 1099511627776) (hm : isIns v x) : Ev (fun k => laws_heldInsS.f k x v) (v + 5 * (x.length : Int)) := by
  unfold laws_heldInsS.f
  simpa using heldIns_l v h0 hv x hx hm x.length 0 (by omega)
end Go.Proofs.Ytocimkpafakiaaa.MarksInsFnExactTrimProg

namespace Go.Proofs.Ytocimkpafakiaaa.MarksInsSSFnExactTrimProg
open Go.RowKit Go.Proofs.Ytocimkpafakiaaa.XFnExactTrimProg Go.Proofs.Ytocimkpafakiaaa.Lib Go.Proofs.Ytocimkpafakiaaa.MarksIntFnExactTrimProg Go.Proofs.Ytocimkpafakiaaa.MarksInsFnExactTrimProg Go.Proofs.YtocimkpafakiaaaW.PrintWords Go.Proofs.YtocimkpafakiaaaW.PrintLast Go.Proofs.YtocimkpafakiaaaW.PrintMore
set_option linter.unusedVariables false
set_option linter.unusedSimpArgs false

def tot : List (List S63) → Int
  | [] => 0
  | y :: r => 5 * (y.length : Int) + tot r
theorem tot_le (r : List (List S63)) (h : ∀ y ∈ r, y.length ≤ 1048576) : 0 ≤ tot r ∧ tot r ≤ 5242880 * (r.length : Int) := by
  induction r with
  | nil => exact ⟨Int.le_refl _, Int.le_refl _⟩
  | cons y r ih =>
    have h1 := h y (by simp)
    have h2 := ih (fun z hz => h z (List.mem_cons_of_mem _ hz))
    simp only [tot, List.length_cons]
    omega
theorem getD_mid (pre rest : List (List S63)) (y : List S63) : (pre ++ y :: rest).getD pre.length [] = y := by
  rw [List.getD_eq_getElem?_getD, List.getElem?_append_right (Nat.le_refl _), Nat.sub_self]
  rfl
theorem set_mid (pre rest : List (List S63)) (y z : List S63) : (pre ++ y :: rest).set pre.length z = (pre ++ [z]) ++ rest := by
  rw [List.set_append_right _ _ (Nat.le_refl _), Nat.sub_self]
  simp
theorem marks_l : ∀ (rest pre : List (List S63)) (v : Int), pre.length + rest.length ≤ 1048576 → (∀ y ∈ rest, y.length ≤ 1048576) → 0 ≤ v → v ≤ 2097152 + 5242880 * (pre.length : Int) →
    ∃ zs : List (List S63), Ev (fun k => laws_markInsSS.l0 k (pre ++ rest) v (pre.length : Int)) (v + tot rest, pre ++ zs) ∧ ∀ pre' : List (List S63), pre'.length = pre.length → Ev (fun k => laws_heldInsSS.l0 k (pre' ++ zs) v (pre'.length : Int)) (v + tot rest) := by
  intro rest
  induction rest with
  | nil =>
    intro pre v hl hy h0 hv
    refine ⟨[], Ev.step (f := fun _ => some (v + tot [], pre ++ [])) (fun k => ?_) (ev_some rfl), fun pre' hp => Ev.step (f := fun _ => some (v + tot [])) (fun k => ?_) (ev_some rfl)⟩
    · rw [laws_markInsSS.l0, if_neg (by simp)]
      simp [tot]
    · rw [laws_heldInsSS.l0, if_neg (by simp)]
      simp [tot]
  | cons y rest ih =>
    intro pre v hl hy h0 hv
    simp only [List.length_cons] at hl
    have h4 := hy y (by simp)
    obtain ⟨ys, m1, m2, m3⟩ := markIns_ev v h0 (by omega) y (by omega)
    have hh := heldIns_ev v h0 (by omega) ys (by omega) m3
    rw [m2] at hh
    obtain ⟨zs, g1, g2⟩ := ih (pre ++ [ys]) (v + 5 * (y.length : Int)) (by simp; omega) (fun z hz => hy z (List.mem_cons_of_mem _ hz)) (by omega) (by simp; omega)
    have e : v + tot (y :: rest) = v + 5 * (y.length : Int) + tot rest := by simp only [tot]; omega
    refine ⟨ys :: zs, ?_, fun pre' hp => ?_⟩
    · refine Ev.step (fun k => by rw [laws_markInsSS.l0, if_pos (by simp; omega), if_pos (by omega), Int.toNat_natCast, getD_mid]) ?_
      refine Ev.bind m1 ?_
      rw [w64_nat (by omega), e]
      show Ev (fun n => laws_markInsSS.l0 n ((pre ++ y :: rest).set pre.length ys) (v + 5 * (y.length : Int)) ((pre.length + 1 : Nat) : Int)) _
      rw [set_mid]
      have g3 := g1
      rw [List.length_append, List.length_singleton, List.append_assoc pre [ys] zs] at g3
      exact g3
    · refine Ev.step (fun k => by rw [laws_heldInsSS.l0, if_pos (by simp; omega), if_pos (by omega)]) ?_
      have r : rd_L4 (pre' ++ ys :: zs) (pre'.length : Int) = ys := by
        unfold rd_L4
        rw [Int.toNat_natCast, getD_mid]
      rw [r]
      refine Ev.bind hh (ev_neg (by omega) ?_)
      rw [w64_nat (by omega), e]
      have g3 := g2 (pre' ++ [ys]) (by simp [hp])
      rw [List.length_append, List.length_singleton, List.append_assoc] at g3
      exact g3
theorem marksProg_ev (c : List Int) (q : List (List S63)) (hc : c.length ≤ 1048576) (hl : q.length ≤ 1048576) (hy : ∀ y ∈ q, y.length ≤ 1048576) : ∃ (m : Int) (q1 : List Int) (q2 : List (List S63)), 0 ≤ m ∧ Ev (fun k => laws_markProg.f k c q 1) (m, q1, q2) ∧ Ev (fun k => laws_heldProg.f k q1 q2 1) m := by
  obtain ⟨ys, m1, m2, m3⟩ := markInts_ev 1 (by omega) (by omega) c (by omega)
  have hh := heldInts_ev 1 (by omega) (by omega) ys (by omega) m3
  rw [m2] at hh
  obtain ⟨zs, h1, h2⟩ := marks_l q [] (1 + (c.length : Int)) (by simpa using hl) hy (by omega) (by simp; omega)
  have ht := tot_le q hy
  refine ⟨1 + (c.length : Int) + tot q, ys, zs, by omega, ?_, ?_⟩
  · unfold laws_markProg.f laws_markInsSS.f
    exact Ev.bind m1 (Ev.bind h1 (ev_some rfl))
  · unfold laws_heldProg.f laws_heldInsSS.f
    exact Ev.bind hh (ev_neg (by omega) (Ev.bind (h2 [] rfl) (ev_neg (by omega) (ev_some rfl))))
end Go.Proofs.Ytocimkpafakiaaa.MarksInsSSFnExactTrimProg
