/- The program's PutInt is the reference's, at every number. -/
import Derived.Test.YtnnakemiaalggaaPFnExactPutIntx2
import Derived.Test.YtnnakemiaalggaaLib
import Derived.OpenShut
namespace Go.Proofs.Ytnnakemiaalggaa.Pure
open Go.RowKit Go.Proofs.Ytnnakemiaalggaa.PFnExactPutInt Go.Proofs.Ytnnakemiaalggaa.Lib Go.Proofs.YtnnakemiaalggaaW.PrintWords Go.Proofs.YtnnakemiaalggaaW.PrintLast Go.Proofs.YtnnakemiaalggaaW.PrintMore
set_option linter.unusedVariables false
set_option linter.unusedSimpArgs false

theorem eqByteS_l (x : List Int) (hx : x.length ≤ 4611686018427387904) : ∀ (n i : Nat), i + n = x.length → Ev (fun k => laws_eqByteS.l0 k x x i) true := by
  intro n
  induction n with
  | zero =>
    intro i hi
    refine Ev.step (f := fun _ => some true) (fun k => ?_) (ev_some rfl)
    simp only [laws_eqByteS.l0]
    rw [if_neg (by omega)]
  | succ n ih =>
    intro i hi
    refine Ev.step (fun k => ?_) (ih (i + 1) (by omega))
    simp only [laws_eqByteS.l0]
    rw [if_pos (by omega), if_pos (by omega), if_pos (by omega), if_pos trivial, w64_nat (by omega)]
theorem eqByteS_ev (x : List Int) (hx : x.length ≤ 1099511627776) : Ev (fun k => laws_eqByteS.f k x x) true := by
  unfold laws_eqByteS.f
  exact ev_pos rfl (eqByteS_l x (by omega) x.length 0 (by omega))

def markByteS_is (k0 : Int) (ys : List Int) : Prop := ∀ j : Nat, j < ys.length → ys.getD j 0 = ((k0 + (j : Int)) % 256)
theorem markByteS_l (k0 : Int) (h0 : 0 ≤ k0) (hk : k0 ≤ 4611686018427387904) : ∀ (n i : Nat) (x : List Int), i + n = x.length → x.length ≤ 1099511627776 → (∀ j : Nat, j < i → x.getD j 0 = ((k0 + (j : Int)) % 256)) → ∃ ys : List Int, Ev (fun k => laws_markByteS.l0 k x (k0 + (i : Int)) i) (k0 + (x.length : Int), ys) ∧ ys.length = x.length ∧ markByteS_is k0 ys := by
  intro n
  induction n with
  | zero =>
    intro i x hi hl h
    refine ⟨x, Ev.step (f := fun _ => some (k0 + (x.length : Int), x)) (fun k => ?_) (ev_some rfl), rfl, fun j hj => h j (by omega)⟩
    simp only [laws_markByteS.l0]
    rw [if_neg (by omega), show i = x.length by omega]
  | succ n ih =>
    intro i x hi hl h
    obtain ⟨ys, hy, hyl, hm⟩ := ih (i + 1) (x.set i ((k0 + (i : Int)) % 256)) (by simp; omega) (by simpa using hl) (fun j hj => by
      by_cases e : j = i
      · subst e
        exact L_set_self _ _ _ _ (by omega)
      · rw [L_set_ne _ _ _ _ _ (by omega)]
        exact h j (by omega))
    rw [List.length_set] at hy hyl
    refine ⟨ys, Ev.step (fun k => ?_) hy, hyl, hm⟩
    simp only [laws_markByteS.l0]
    rw [if_pos (by omega), if_pos (by omega), w64_nat (by omega), Int.toNat_natCast, w64 (by omega) (by omega)]
    rw [show k0 + (i : Int) + 1 = k0 + ((i + 1 : Nat) : Int) by omega]
theorem markByteS_ev (k0 : Int) (h0 : 0 ≤ k0) (hk : k0 ≤ 4611686018427387904) (x : List Int) (hx : x.length ≤ 1099511627776) : ∃ ys : List Int, Ev (fun k => laws_markByteS.f k x k0) (k0 + (x.length : Int), ys) ∧ ys.length = x.length ∧ markByteS_is k0 ys := by
  obtain ⟨ys, h, h2⟩ := markByteS_l k0 h0 hk x.length 0 x (by omega) hx (fun j hj => by omega)
  refine ⟨ys, ?_, h2⟩
  unfold laws_markByteS.f
  simpa using h
theorem heldByteS_l (k0 : Int) (h0 : 0 ≤ k0) (hk : k0 ≤ 4611686018427387904) (x : List Int) (hx : x.length ≤ 1099511627776) (hm : markByteS_is k0 x) : ∀ (n i : Nat), i + n = x.length → Ev (fun k => laws_heldByteS.l0 k x (k0 + (i : Int)) i) (k0 + (x.length : Int)) := by
  intro n
  induction n with
  | zero =>
    intro i hi
    refine Ev.step (f := fun _ => some (k0 + (x.length : Int))) (fun k => ?_) (ev_some rfl)
    simp only [laws_heldByteS.l0]
    rw [if_neg (by omega), show i = x.length by omega]
  | succ n ih =>
    intro i hi
    refine Ev.step (fun k => ?_) (ih (i + 1) (by omega))
    simp only [laws_heldByteS.l0]
    rw [if_pos (by omega), if_pos (by omega), if_pos (by rw [rd_nat]; exact hm i (by omega)), w64_nat (by omega), w64 (by omega) (by omega)]
    rw [show k0 + (i : Int) + 1 = k0 + ((i + 1 : Nat) : Int) by omega]
theorem heldByteS_ev (k0 : Int) (h0 : 0 ≤ k0) (hk : k0 ≤ 4611686018427387904) (x : List Int) (hx : x.length ≤ 1099511627776) (hm : markByteS_is k0 x) : Ev (fun k => laws_heldByteS.f k x k0) (k0 + (x.length : Int)) := by
  unfold laws_heldByteS.f
  simpa using heldByteS_l k0 h0 hk x hx hm x.length 0 (by omega)

theorem put_rounds (x : Int) : ∀ (m : Nat) (acc : List Int), acc.length + m ≤ 20 → m ≤ 8 → ∃ r : List Int, r.length ≤ 20 ∧ Ev (fun k => spec_PutInt.l0 k x acc (8 * (m : Int) - 8)) r ∧ Ev (fun k => impl_PutInt.l0 k x acc ((m : Int) - 1)) r := by
  intro m
  induction m with
  | zero =>
    intro acc h _
    refine ⟨acc, by omega, Ev.step (f := fun _ => some acc) (fun k => ?_) (ev_some rfl), Ev.step (f := fun _ => some acc) (fun k => ?_) (ev_some rfl)⟩
    · simp only [spec_PutInt.l0]
      rw [if_neg (by omega)]
    · simp only [impl_PutInt.l0]
      rw [if_neg (by omega)]
  | succ m ih =>
    intro acc h hm
    obtain ⟨r, h1, h2, h3⟩ := ih (acc ++ [(Go.bits .and .i64 (shr .i64 x (8 * ((m + 1 : Nat) : Int) - 8)) 255) % 256]) (by simp; omega) (by omega)
    have e8 : wrap64 (8 * (((m + 1 : Nat) : Int) - 1)) = 8 * ((m + 1 : Nat) : Int) - 8 := by rw [w64 (by omega) (by omega)]; omega
    refine ⟨r, h1, Ev.step (fun k => ?_) h2, Ev.step (fun k => ?_) h3⟩
    · simp only [spec_PutInt.l0]
      rw [if_pos (by omega), if_pos (by omega), if_pos (by omega), w64 (by omega) (by omega)]
      rw [show 8 * ((m + 1 : Nat) : Int) - 8 - 8 = 8 * (m : Int) - 8 by omega]
    · simp only [impl_PutInt.l0]
      rw [if_pos (by omega), e8, if_pos (by omega), if_pos (by omega), w64 (by omega) (by omega)]
      rw [show ((m + 1 : Nat) : Int) - 1 - 1 = (m : Int) - 1 by omega]
theorem put_start (x : Int) (acc : List Int) (h : acc.length ≤ 1) : ∃ r : List Int, r.length ≤ 20 ∧ Ev (fun k => spec_PutInt.j0 k x acc) r ∧ Ev (fun k => impl_PutInt.j0 k x acc) r := by
  obtain ⟨r, h1, h2, h3⟩ := put_rounds x 8 acc (by omega) (by omega)
  refine ⟨r, h1, Ev.step (fun k => ?_) h2, Ev.step (fun k => ?_) h3⟩
  · simp only [spec_PutInt.j0]
    rfl
  · simp only [impl_PutInt.j0]
    rfl
theorem put_same (x : Int) : ∃ r : List Int, r.length ≤ 20 ∧ Ev (fun k => spec_PutInt.f k x) r ∧ Ev (fun k => impl_PutInt.f k x) r := by
  unfold spec_PutInt.f impl_PutInt.f
  by_cases c : x < 0
  · obtain ⟨r, h1, h2, h3⟩ := put_start (wrap64 ((-1) - x)) [1] (by simp)
    exact ⟨r, h1, ev_bind0 rfl (ev_pos c (ev_pos (by simp) h2)), ev_bind0 rfl (ev_pos c (ev_pos (by simp) h3))⟩
  · obtain ⟨r, h1, h2, h3⟩ := put_start x [0] (by simp)
    exact ⟨r, h1, ev_bind0 rfl (ev_neg c h2), ev_bind0 rfl (ev_neg c h3)⟩
theorem FnExactPutInt : laws_FnExactPutInt.Pure := by
  intro x _
  obtain ⟨r, hl, h, h'⟩ := put_same x
  obtain ⟨ys, hm, hyl, his⟩ := markByteS_ev 1 (by omega) (by omega) r (by omega)
  have hh := heldByteS_ev 1 (by omega) (by omega) ys (by omega) his
  rw [hyl] at hh
  refine Ev.rounds ?_
  unfold laws_FnExactPutInt.f
  refine Ev.bind h (Ev.bind h' (Ev.bind (eqByteS_ev r (by omega)) (ev_pos rfl (Ev.bind hm (Ev.bind hh (ev_neg (by omega) (ev_pos rfl ?_)))))))
  exact Ev.bind h' (Ev.bind (eqByteS_ev r (by omega)) (ev_pos rfl (Ev.bind hh (ev_neg (by omega) (ev_pos rfl (ev_some rfl))))))

end Go.Proofs.Ytnnakemiaalggaa.Pure
