/- What the law's own helpers answer (copies, comparisons, sizes), for all rows as each lemma says. -/
import Derived.Test.YtonlhgkpmjefkaaWalkFnExactPipe
import Derived.Test.YtonlhgkpmjefkaaLib
namespace Go.Proofs.Ytonlhgkpmjefkaa.HlpFnExactPipe
open Go.RowKit Go.Proofs.Ytonlhgkpmjefkaa.XFnExactPipe Go.Proofs.Ytonlhgkpmjefkaa.Lib Go.Proofs.YtonlhgkpmjefkaaW.PrintWords Go.Proofs.YtonlhgkpmjefkaaW.PrintLast Go.Proofs.YtonlhgkpmjefkaaW.PrintMore
set_option linter.unusedVariables false
set_option linter.unusedSimpArgs false

def small_IntS (x : List Int) : Prop := x.length ≤ 1048576
theorem toIntS_l (x : List Int) (hx : x.length ≤ 1048576) : ∀ (n i : Nat) (acc : List Int), i + n = x.length → acc.length = x.length → acc.take i = (x.take i).map id → Ev (fun k => laws_toIntS.l0 k x acc i) x := by
  intro n
  induction n with
  | zero =>
    intro i acc hi hl h
    refine Ev.step (f := fun _ => some acc) (fun k => ?_) (ev_some ?_)
    · simp only [laws_toIntS.l0]
      rw [if_neg (by omega)]
    · have := copy_end id x acc i (by omega) hl h
      simpa using this
  | succ n ih =>
    intro i acc hi hl h
    refine Ev.step (f := fun k => laws_toIntS.l0 k x (acc.set i (id (x.getD i 0))) ((i + 1 : Nat) : Int)) (fun k => ?_) (ih (i + 1) _ (by omega) (by simpa using hl) (copy_step id x acc i 0 (by omega) hl h))
    simp only [laws_toIntS.l0]
    rw [if_pos (by omega), if_pos (by omega), if_pos (by omega), w64_nat (by omega), Int.toNat_natCast]
    unfold rd
    rw [Int.toNat_natCast]
    rfl
theorem toIntS_ev (x : List Int) (h : small_IntS x) : Ev (fun k => laws_toIntS.f k x) x := by
  unfold laws_toIntS.f
  have hx : x.length ≤ 1048576 := h
  refine ev_pos (by omega) (ev_pos (by omega) ?_)
  exact toIntS_l x hx x.length 0 _ (by omega) (by simp) (by simp)
theorem eqIntS_l (x : List Int) (hx : x.length ≤ 1048576) : ∀ (n i : Nat), i + n = x.length → Ev (fun k => laws_eqIntS.l0 k x x i) true := by
  intro n
  induction n with
  | zero =>
    intro i hi
    refine Ev.step (f := fun _ => some true) (fun k => ?_) (ev_some rfl)
    simp only [laws_eqIntS.l0]
    rw [if_neg (by omega)]
  | succ n ih =>
    intro i hi
    refine Ev.step (fun k => ?_) (ih (i + 1) (by omega))
    simp only [laws_eqIntS.l0]
    rw [if_pos (by omega), if_pos (by omega), if_pos (by omega), if_pos trivial, w64_nat (by omega)]
theorem eqIntS_ev (x : List Int) (h : small_IntS x) : Ev (fun k => laws_eqIntS.f k x x) true := by
  unfold laws_eqIntS.f
  have hx : x.length ≤ 1048576 := h
  exact ev_pos rfl (eqIntS_l x hx x.length 0 (by omega))
def small'_InsS (x : (List S37)) : Prop := x.length ≤ 1048576
theorem rd_T37_nat (xs : List S37) (i : Nat) : rd_T37 xs (i : Int) = xs.getD i z37 := by unfold rd_T37; rw [Int.toNat_natCast]
theorem eqInsS_l (x : (List S37)) (hx : x.length ≤ 1048576) : ∀ (n i : Nat), i + n = x.length → Ev (fun k => laws_eqInsS.l0 k x x i) true := by
  intro n
  induction n with
  | zero =>
    intro i hi
    refine Ev.step (f := fun _ => some true) (fun k => ?_) (ev_some rfl)
    simp only [laws_eqInsS.l0]
    rw [if_neg (by omega)]
  | succ n ih =>
    intro i hi
    refine Ev.step (fun k => by simp only [laws_eqInsS.l0]; rfl) ?_
    have hm : x.getD i z37 ∈ x := by
      rw [List.getD_eq_getElem?_getD, List.getElem?_eq_getElem (show i < x.length by omega)]
      exact List.getElem_mem _
    rw [rd_T37_nat]
    refine ev_pos (by omega) (ev_pos (by omega) (ev_pos (by omega) (ev_bind0 (x := true) (by simp [laws_eqIns.f]) (ev_pos rfl ?_))))
    rw [w64_nat (by omega)]
    exact ih (i + 1) (by omega)
theorem eqInsS_ev (x : (List S37)) (h : small'_InsS x) : Ev (fun k => laws_eqInsS.f k x x) true := by
  unfold laws_eqInsS.f
  have hx : x.length ≤ 1048576 := h
  exact ev_pos rfl (eqInsS_l x hx x.length 0 (by omega))
def small'_InsSS (x : (List (List S37))) : Prop := x.length ≤ 1048576 ∧ ∀ y ∈ x, small'_InsS y
theorem rd_L2_nat (xs : List (List S37)) (i : Nat) : rd_L2 xs (i : Int) = xs.getD i [] := by unfold rd_L2; rw [Int.toNat_natCast]
theorem eqInsSS_l (x : (List (List S37))) (hx : x.length ≤ 1048576) (he : ∀ y ∈ x, small'_InsS y) : ∀ (n i : Nat), i + n = x.length → Ev (fun k => laws_eqInsSS.l0 k x x i) true := by
  intro n
  induction n with
  | zero =>
    intro i hi
    refine Ev.step (f := fun _ => some true) (fun k => ?_) (ev_some rfl)
    simp only [laws_eqInsSS.l0]
    rw [if_neg (by omega)]
  | succ n ih =>
    intro i hi
    refine Ev.step (fun k => by simp only [laws_eqInsSS.l0]; rfl) ?_
    have hm : x.getD i [] ∈ x := by
      rw [List.getD_eq_getElem?_getD, List.getElem?_eq_getElem (show i < x.length by omega)]
      exact List.getElem_mem _
    rw [rd_L2_nat]
    refine ev_pos (by omega) (ev_pos (by omega) (ev_pos (by omega) (Ev.bind (eqInsS_ev _ (he _ hm)) (ev_pos rfl ?_))))
    rw [w64_nat (by omega)]
    exact ih (i + 1) (by omega)
theorem eqInsSS_ev (x : (List (List S37))) (h : small'_InsSS x) : Ev (fun k => laws_eqInsSS.f k x x) true := by
  unfold laws_eqInsSS.f
  have hx : x.length ≤ 1048576 := h.1
  exact ev_pos rfl (eqInsSS_l x hx h.2 x.length 0 (by omega))
theorem eqProg_ev (p0 : (List Int)) (p1 : (List (List S37))) (h0 : small_IntS p0) (h1 : small'_InsSS p1) : Ev (fun k => laws_eqProg.f k p0 p1 p0 p1) true := by
  unfold laws_eqProg.f
  exact Ev.bind (eqIntS_ev _ h0) (ev_pos rfl (Ev.bind (eqInsSS_ev _ h1) (ev_pos rfl (ev_some rfl))))
end Go.Proofs.Ytonlhgkpmjefkaa.HlpFnExactPipe
