/- What the law's own helpers answer (copies, comparisons, sizes), for all rows as each lemma says. -/
import Derived.Test.YtonlhgkpmjefkaaXFnExactEmitx15
import Derived.Test.YtonlhgkpmjefkaaLib
namespace Go.Proofs.Ytonlhgkpmjefkaa.HlpFnExactEmit
open Go.RowKit Go.Proofs.Ytonlhgkpmjefkaa.XFnExactEmit Go.Proofs.Ytonlhgkpmjefkaa.Lib Go.Proofs.YtonlhgkpmjefkaaW.PrintWords Go.Proofs.YtonlhgkpmjefkaaW.PrintLast Go.Proofs.YtonlhgkpmjefkaaW.PrintMore
set_option linter.unusedVariables false
set_option linter.unusedSimpArgs false

def small_IntS (x : List Int) : Prop := x.length ≤ 1048576
def conv_IntS (x : List Int) : List Int := x
theorem toIntS_l (x : List Int) (hx : x.length ≤ 1048576) : ∀ (n i : Nat) (acc : List Int), i + n = x.length → acc.length = x.length → acc.take i = (x.take i).map id → Ev (fun k => laws_toIntS.l0 k x acc i) x := by
  intro n
  induction n with
  | zero =>
    intro i acc hi hl h
    refine Ev.step (f := fun _ => some acc) (fun k => ?_) (ev_some ?_)
    · simp only [laws_toIntS.l0]
      rw [if_neg (by omega)]
    · have := copy_end id x acc i (by omega) hl h
      simpa using this
  | succ n ih =>
    intro i acc hi hl h
    refine Ev.step (f := fun k => laws_toIntS.l0 k x (acc.set i (id (x.getD i 0))) ((i + 1 : Nat) : Int)) (fun k => ?_) (ih (i + 1) _ (by omega) (by simpa using hl) (copy_step id x acc i 0 (by omega) hl h))
    simp only [laws_toIntS.l0]
    rw [if_pos (by omega), if_pos (by omega), if_pos (by omega), w64_nat (by omega), Int.toNat_natCast]
    unfold rd
    rw [Int.toNat_natCast]
    rfl
theorem toIntS_ev (x : List Int) (h : small_IntS x) : Ev (fun k => laws_toIntS.f k x) x := by
  unfold laws_toIntS.f
  have hx : x.length ≤ 1048576 := h
  refine ev_pos (by omega) (ev_pos (by omega) ?_)
  exact toIntS_l x hx x.length 0 _ (by omega) (by simp) (by simp)
theorem eqIntS_l (x : List Int) (hx : x.length ≤ 1048576) : ∀ (n i : Nat), i + n = x.length → Ev (fun k => laws_eqIntS.l0 k x x i) true := by
  intro n
  induction n with
  | zero =>
    intro i hi
    refine Ev.step (f := fun _ => some true) (fun k => ?_) (ev_some rfl)
    simp only [laws_eqIntS.l0]
    rw [if_neg (by omega)]
  | succ n ih =>
    intro i hi
    refine Ev.step (fun k => ?_) (ih (i + 1) (by omega))
    simp only [laws_eqIntS.l0]
    rw [if_pos (by omega), if_pos (by omega), if_pos (by omega), if_pos trivial, w64_nat (by omega)]
theorem eqIntS_ev (x : List Int) (h : small_IntS x) : Ev (fun k => laws_eqIntS.f k x x) true := by
  unfold laws_eqIntS.f
  have hx : x.length ≤ 1048576 := h
  exact ev_pos rfl (eqIntS_l x hx x.length 0 (by omega))
def conv_Step (x : S46) : S46 := ⟨x.f0, x.f1, x.f2, x.f3, x.f4⟩
def small_StepS (x : (List S46)) : Prop := x.length ≤ 1048576
def small'_StepS (x : (List S46)) : Prop := x.length ≤ 1048576
def conv_StepS (x : (List S46)) : (List S46) := x.map conv_Step
theorem small_conv_StepS {x : (List S46)} (h : small_StepS x) : small'_StepS (conv_StepS x) := by
  simpa [small'_StepS, conv_StepS, small_StepS] using h
theorem rd_T46_nat (xs : List S46) (i : Nat) : rd_T46 xs (i : Int) = xs.getD i z46 := by unfold rd_T46; rw [Int.toNat_natCast]
theorem eqStepS_l (x : (List S46)) (hx : x.length ≤ 1048576) : ∀ (n i : Nat), i + n = x.length → Ev (fun k => laws_eqStepS.l0 k x x i) true := by
  intro n
  induction n with
  | zero =>
    intro i hi
    refine Ev.step (f := fun _ => some true) (fun k => ?_) (ev_some rfl)
    simp only [laws_eqStepS.l0]
    rw [if_neg (by omega)]
  | succ n ih =>
    intro i hi
    refine Ev.step (fun k => by simp only [laws_eqStepS.l0]; rfl) ?_
    have hm : x.getD i z46 ∈ x := by
      rw [List.getD_eq_getElem?_getD, List.getElem?_eq_getElem (show i < x.length by omega)]
      exact List.getElem_mem _
    rw [rd_T46_nat]
    refine ev_pos (by omega) (ev_pos (by omega) (ev_pos (by omega) (ev_bind0 (x := true) (by simp [laws_eqStep.f]) (ev_pos rfl ?_))))
    rw [w64_nat (by omega)]
    exact ih (i + 1) (by omega)
theorem eqStepS_ev (x : (List S46)) (h : small'_StepS x) : Ev (fun k => laws_eqStepS.f k x x) true := by
  unfold laws_eqStepS.f
  have hx : x.length ≤ 1048576 := h
  exact ev_pos rfl (eqStepS_l x hx x.length 0 (by omega))

end Go.Proofs.Ytonlhgkpmjefkaa.HlpFnExactEmit
