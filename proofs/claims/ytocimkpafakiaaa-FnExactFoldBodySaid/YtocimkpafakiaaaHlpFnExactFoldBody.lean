/- What the law's own helpers answer (copies, comparisons, sizes), for all rows as each lemma says. -/
import Derived.Test.YtocimkpafakiaaaXFnExactFoldBodyx19
import Derived.Test.YtocimkpafakiaaaLib
namespace Go.Proofs.Ytocimkpafakiaaa.HlpFnExactFoldBody
open Go.RowKit Go.Proofs.Ytocimkpafakiaaa.XFnExactFoldBody Go.Proofs.Ytocimkpafakiaaa.Lib Go.Proofs.YtocimkpafakiaaaW.PrintWords Go.Proofs.YtocimkpafakiaaaW.PrintLast Go.Proofs.YtocimkpafakiaaaW.PrintMore
set_option linter.unusedVariables false
set_option linter.unusedSimpArgs false

def conv_Ins (x : S65) : S63 := ⟨x.f0, x.f1, x.f2, x.f3, x.f4⟩
def small_InsS (x : (List S65)) : Prop := x.length ≤ 1048576
def small'_InsS (x : (List S63)) : Prop := x.length ≤ 1048576
def conv_InsS (x : (List S65)) : (List S63) := x.map conv_Ins
theorem small_conv_InsS {x : (List S65)} (h : small_InsS x) : small'_InsS (conv_InsS x) := by
  simpa [small'_InsS, conv_InsS, small_InsS] using h
theorem rd_T65_nat (xs : List S65) (i : Nat) : rd_T65 xs (i : Int) = xs.getD i z65 := by unfold rd_T65; rw [Int.toNat_natCast]
theorem toInsS_l (x : (List S65)) (hx : x.length ≤ 1048576) : ∀ (n i : Nat) (acc : (List S63)), i + n = x.length → acc.length = x.length → acc.take i = (x.take i).map conv_Ins → Ev (fun k => laws_toInsS.l0 k x acc i) (conv_InsS x) := by
  intro n
  induction n with
  | zero =>
    intro i acc hi hl h
    refine Ev.step (f := fun _ => some acc) (fun k => ?_) (ev_some (copy_end conv_Ins x acc i (by omega) hl h))
    simp only [laws_toInsS.l0]
    rw [if_neg (by omega)]
  | succ n ih =>
    intro i acc hi hl h
    refine Ev.step (fun k => by simp only [laws_toInsS.l0]; rfl) ?_
    have hm : x.getD i z65 ∈ x := by
      rw [List.getD_eq_getElem?_getD, List.getElem?_eq_getElem (show i < x.length by omega)]
      exact List.getElem_mem _
    rw [rd_T65_nat]
    refine ev_pos (by omega) (ev_pos (by omega) (ev_bind0 (x := ((conv_Ins (x.getD i z65)).f0, (conv_Ins (x.getD i z65)).f1, (conv_Ins (x.getD i z65)).f2, (conv_Ins (x.getD i z65)).f3, (conv_Ins (x.getD i z65)).f4)) rfl (ev_pos (by omega) ?_)))
    rw [w64_nat (by omega), Int.toNat_natCast]
    exact ih (i + 1) _ (by omega) (by simpa using hl) (copy_step conv_Ins x acc i z65 (by omega) hl h)
theorem toInsS_ev (x : (List S65)) (h : small_InsS x) : Ev (fun k => laws_toInsS.f k x) (conv_InsS x) := by
  unfold laws_toInsS.f
  have hx : x.length ≤ 1048576 := h
  refine ev_pos (by omega) (ev_pos (by omega) ?_)
  exact toInsS_l x hx x.length 0 _ (by omega) (by simp) (by simp)
theorem rd_T63_nat (xs : List S63) (i : Nat) : rd_T63 xs (i : Int) = xs.getD i z63 := by unfold rd_T63; rw [Int.toNat_natCast]
theorem eqInsS_l (x : (List S63)) (hx : x.length ≤ 1048576) : ∀ (n i : Nat), i + n = x.length → Ev (fun k => laws_eqInsS.l0 k x x i) true := by
  intro n
  induction n with
  | zero =>
    intro i hi
    refine Ev.step (f := fun _ => some true) (fun k => ?_) (ev_some rfl)
    simp only [laws_eqInsS.l0]
    rw [if_neg (by omega)]
  | succ n ih =>
    intro i hi
    refine Ev.step (fun k => by simp only [laws_eqInsS.l0]; rfl) ?_
    have hm : x.getD i z63 ∈ x := by
      rw [List.getD_eq_getElem?_getD, List.getElem?_eq_getElem (show i < x.length by omega)]
      exact List.getElem_mem _
    rw [rd_T63_nat]
    refine ev_pos (by omega) (ev_pos (by omega) (ev_pos (by omega) (ev_bind0 (x := true) (by simp [laws_eqIns.f]) (ev_pos rfl ?_))))
    rw [w64_nat (by omega)]
    exact ih (i + 1) (by omega)
theorem eqInsS_ev (x : (List S63)) (h : small'_InsS x) : Ev (fun k => laws_eqInsS.f k x x) true := by
  unfold laws_eqInsS.f
  have hx : x.length ≤ 1048576 := h
  exact ev_pos rfl (eqInsS_l x hx x.length 0 (by omega))
theorem szInsS_ev (x : (List S65)) (hm : x.length ≤ 9223372036854775807) (a : Int) (h0 : 0 ≤ a) (h1 : a ≤ 1048576) : ∃ r, laws_szInsS.f x a = some r ∧ r ≤ a ∧ (0 ≤ r → small_InsS x) := by
  unfold laws_szInsS.f small_InsS
  rw [w64 (x := a - (x.length : Int)) (by omega) (by omega)]
  by_cases c : a - (x.length : Int) < 0
  · rw [if_pos c]
    exact ⟨-1, rfl, by omega, fun h => by omega⟩
  · rw [if_neg c]
    exact ⟨_, rfl, by omega, fun h => by omega⟩

end Go.Proofs.Ytocimkpafakiaaa.HlpFnExactFoldBody
