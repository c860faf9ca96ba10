/- What the law's own helpers answer (copies, comparisons, sizes), for all rows as each lemma says. -/
import Derived.Test.YtocimkpafakiaaaWalkFnExactTrimProg
import Derived.Test.YtocimkpafakiaaaLib
namespace Go.Proofs.Ytocimkpafakiaaa.HlpFnExactTrimProg
open Go.RowKit Go.Proofs.Ytocimkpafakiaaa.XFnExactTrimProg Go.Proofs.Ytocimkpafakiaaa.Lib Go.Proofs.YtocimkpafakiaaaW.PrintWords Go.Proofs.YtocimkpafakiaaaW.PrintLast Go.Proofs.YtocimkpafakiaaaW.PrintMore
set_option linter.unusedVariables false
set_option linter.unusedSimpArgs false

def small_IntS (x : List Int) : Prop := x.length ≤ 1048576
def conv_IntS (x : List Int) : List Int := x
theorem toIntS_l (x : List Int) (hx : x.length ≤ 1048576) : ∀ (n i : Nat) (acc : List Int), i + n = x.length → acc.length = x.length → acc.take i = (x.take i).map id → Ev (fun k => laws_toIntS.l0 k x acc i) x := by
  intro n
  induction n with
  | zero =>
    intro i acc hi hl h
    refine Ev.step (f := fun _ => some acc) (fun k => ?_) (ev_some ?_)
    · simp only [laws_toIntS.l0]
      rw [if_neg (by omega)]
    · have := copy_end id x acc i (by omega) hl h
      simpa using this
  | succ n ih =>
    intro i acc hi hl h
    refine Ev.step (f := fun k => laws_toIntS.l0 k x (acc.set i (id (x.getD i 0))) ((i + 1 : Nat) : Int)) (fun k => ?_) (ih (i + 1) _ (by omega) (by simpa using hl) (copy_step id x acc i 0 (by omega) hl h))
    simp only [laws_toIntS.l0]
    rw [if_pos (by omega), if_pos (by omega), if_pos (by omega), w64_nat (by omega), Int.toNat_natCast]
    unfold rd
    rw [Int.toNat_natCast]
    rfl
theorem toIntS_ev (x : List Int) (h : small_IntS x) : Ev (fun k => laws_toIntS.f k x) x := by
  unfold laws_toIntS.f
  have hx : x.length ≤ 1048576 := h
  refine ev_pos (by omega) (ev_pos (by omega) ?_)
  exact toIntS_l x hx x.length 0 _ (by omega) (by simp) (by simp)
theorem eqIntS_l (x : List Int) (hx : x.length ≤ 1048576) : ∀ (n i : Nat), i + n = x.length → Ev (fun k => laws_eqIntS.l0 k x x i) true := by
  intro n
  induction n with
  | zero =>
    intro i hi
    refine Ev.step (f := fun _ => some true) (fun k => ?_) (ev_some rfl)
    simp only [laws_eqIntS.l0]
    rw [if_neg (by omega)]
  | succ n ih =>
    intro i hi
    refine Ev.step (fun k => ?_) (ih (i + 1) (by omega))
    simp only [laws_eqIntS.l0]
    rw [if_pos (by omega), if_pos (by omega), if_pos (by omega), if_pos trivial, w64_nat (by omega)]
theorem eqIntS_ev (x : List Int) (h : small_IntS x) : Ev (fun k => laws_eqIntS.f k x x) true := by
  unfold laws_eqIntS.f
  have hx : x.length ≤ 1048576 := h
  exact ev_pos rfl (eqIntS_l x hx x.length 0 (by omega))
theorem szIntS_ev (x : (List Int)) (hm : x.length ≤ 9223372036854775807) (a : Int) (h0 : 0 ≤ a) (h1 : a ≤ 1048576) : ∃ r, laws_szIntS.f x a = some r ∧ r ≤ a ∧ (0 ≤ r → small_IntS x) := by
  unfold laws_szIntS.f small_IntS
  rw [w64 (x := a - (x.length : Int)) (by omega) (by omega)]
  by_cases c : a - (x.length : Int) < 0
  · rw [if_pos c]
    exact ⟨-1, rfl, by omega, fun h => by omega⟩
  · rw [if_neg c]
    exact ⟨_, rfl, by omega, fun h => by omega⟩
def conv_Ins (x : S65) : S63 := ⟨x.f0, x.f1, x.f2, x.f3, x.f4⟩
def small_InsS (x : (List S65)) : Prop := x.length ≤ 1048576
def small'_InsS (x : (List S63)) : Prop := x.length ≤ 1048576
def conv_InsS (x : (List S65)) : (List S63) := x.map conv_Ins
theorem small_conv_InsS {x : (List S65)} (h : small_InsS x) : small'_InsS (conv_InsS x) := by
  simpa [small'_InsS, conv_InsS, small_InsS] using h
theorem rd_T65_nat (xs : List S65) (i : Nat) : rd_T65 xs (i : Int) = xs.getD i z65 := by unfold rd_T65; rw [Int.toNat_natCast]
theorem toInsS_l (x : (List S65)) (hx : x.length ≤ 1048576) : ∀ (n i : Nat) (acc : (List S63)), i + n = x.length → acc.length = x.length → acc.take i = (x.take i).map conv_Ins → Ev (fun k => laws_toInsS.l0 k x acc i) (conv_InsS x) := by
  intro n
  induction n with
  | zero =>
    intro i acc hi hl h
    refine Ev.step (f := fun _ => some acc) (fun k => ?_) (ev_some (copy_end conv_Ins x acc i (by omega) hl h))
    simp only [laws_toInsS.l0]
    rw [if_neg (by omega)]
  | succ n ih =>
    intro i acc hi hl h
    refine Ev.step (fun k => by simp only [laws_toInsS.l0]; rfl) ?_
    have hm : x.getD i z65 ∈ x := by
      rw [List.getD_eq_getElem?_getD, List.getElem?_eq_getElem (show i < x.length by omega)]
      exact List.getElem_mem _
    rw [rd_T65_nat]
    refine ev_pos (by omega) (ev_pos (by omega) (ev_bind0 (x := ((conv_Ins (x.getD i z65)).f0, (conv_Ins (x.getD i z65)).f1, (conv_Ins (x.getD i z65)).f2, (conv_Ins (x.getD i z65)).f3, (conv_Ins (x.getD i z65)).f4)) rfl (ev_pos (by omega) ?_)))
    rw [w64_nat (by omega), Int.toNat_natCast]
    exact ih (i + 1) _ (by omega) (by simpa using hl) (copy_step conv_Ins x acc i z65 (by omega) hl h)
theorem toInsS_ev (x : (List S65)) (h : small_InsS x) : Ev (fun k => laws_toInsS.f k x) (conv_InsS x) := by
  unfold laws_toInsS.f
  have hx : x.length ≤ 1048576 := h
  refine ev_pos (by omega) (ev_pos (by omega) ?_)
  exact toInsS_l x hx x.length 0 _ (by omega) (by simp) (by simp)
theorem rd_T63_nat (xs : List S63) (i : Nat) : rd_T63 xs (i : Int) = xs.getD i z63 := by unfold rd_T63; rw [Int.toNat_natCast]
theorem eqInsS_l (x : (List S63)) (hx : x.length ≤ 1048576) : ∀ (n i : Nat), i + n = x.length → Ev (fun k => laws_eqInsS.l0 k x x i) true := by
  intro n
  induction n with
  | zero =>
    intro i hi
    refine Ev.step (f := fun _ => some true) (fun k => ?_) (ev_some rfl)
    simp only [laws_eqInsS.l0]
    rw [if_neg (by omega)]
  | succ n ih =>
    intro i hi
    refine Ev.step (fun k => by simp only [laws_eqInsS.l0]; rfl) ?_
    have hm : x.getD i z63 ∈ x := by
      rw [List.getD_eq_getElem?_getD, List.getElem?_eq_getElem (show i < x.length by omega)]
      exact List.getElem_mem _
    rw [rd_T63_nat]
    refine ev_pos (by omega) (ev_pos (by omega) (ev_pos (by omega) (ev_bind0 (x := true) (by simp [laws_eqIns.f]) (ev_pos rfl ?_))))
    rw [w64_nat (by omega)]
    exact ih (i + 1) (by omega)
theorem eqInsS_ev (x : (List S63)) (h : small'_InsS x) : Ev (fun k => laws_eqInsS.f k x x) true := by
  unfold laws_eqInsS.f
  have hx : x.length ≤ 1048576 := h
  exact ev_pos rfl (eqInsS_l x hx x.length 0 (by omega))
theorem szInsS_ev (x : (List S65)) (hm : x.length ≤ 9223372036854775807) (a : Int) (h0 : 0 ≤ a) (h1 : a ≤ 1048576) : ∃ r, laws_szInsS.f x a = some r ∧ r ≤ a ∧ (0 ≤ r → small_InsS x) := by
  unfold laws_szInsS.f small_InsS
  rw [w64 (x := a - (x.length : Int)) (by omega) (by omega)]
  by_cases c : a - (x.length : Int) < 0
  · rw [if_pos c]
    exact ⟨-1, rfl, by omega, fun h => by omega⟩
  · rw [if_neg c]
    exact ⟨_, rfl, by omega, fun h => by omega⟩
def small_InsSS (x : (List (List S65))) : Prop := x.length ≤ 1048576 ∧ ∀ y ∈ x, small_InsS y
def small'_InsSS (x : (List (List S63))) : Prop := x.length ≤ 1048576 ∧ ∀ y ∈ x, small'_InsS y
def conv_InsSS (x : (List (List S65))) : (List (List S63)) := x.map conv_InsS
theorem small_conv_InsSS {x : (List (List S65))} (h : small_InsSS x) : small'_InsSS (conv_InsSS x) := by
  refine ⟨by simpa [conv_InsSS] using h.1, fun y hy => ?_⟩
  obtain ⟨z, hz, rfl⟩ := List.mem_map.1 hy
  exact small_conv_InsS (h.2 z hz)
theorem rd_L2_nat (xs : List (List S65)) (i : Nat) : rd_L2 xs (i : Int) = xs.getD i [] := by unfold rd_L2; rw [Int.toNat_natCast]
theorem toInsSS_l (x : (List (List S65))) (hx : x.length ≤ 1048576) (he : ∀ y ∈ x, small_InsS y) : ∀ (n i : Nat) (acc : (List (List S63))), i + n = x.length → acc.length = x.length → acc.take i = (x.take i).map conv_InsS → Ev (fun k => laws_toInsSS.l0 k x acc i) (conv_InsSS x) := by
  intro n
  induction n with
  | zero =>
    intro i acc hi hl h
    refine Ev.step (f := fun _ => some acc) (fun k => ?_) (ev_some (copy_end conv_InsS x acc i (by omega) hl h))
    simp only [laws_toInsSS.l0]
    rw [if_neg (by omega)]
  | succ n ih =>
    intro i acc hi hl h
    refine Ev.step (fun k => by simp only [laws_toInsSS.l0]; rfl) ?_
    have hm : x.getD i [] ∈ x := by
      rw [List.getD_eq_getElem?_getD, List.getElem?_eq_getElem (show i < x.length by omega)]
      exact List.getElem_mem _
    rw [rd_L2_nat]
    refine ev_pos (by omega) (ev_pos (by omega) (Ev.bind (toInsS_ev _ (he _ hm)) (ev_pos (by omega) ?_)))
    rw [w64_nat (by omega), Int.toNat_natCast]
    exact ih (i + 1) _ (by omega) (by simpa using hl) (copy_step conv_InsS x acc i [] (by omega) hl h)
theorem toInsSS_ev (x : (List (List S65))) (h : small_InsSS x) : Ev (fun k => laws_toInsSS.f k x) (conv_InsSS x) := by
  unfold laws_toInsSS.f
  have hx : x.length ≤ 1048576 := h.1
  refine ev_pos (by omega) (ev_pos (by omega) ?_)
  exact toInsSS_l x hx h.2 x.length 0 _ (by omega) (by simp) (by simp)
theorem rd_L4_nat (xs : List (List S63)) (i : Nat) : rd_L4 xs (i : Int) = xs.getD i [] := by unfold rd_L4; rw [Int.toNat_natCast]
theorem eqInsSS_l (x : (List (List S63))) (hx : x.length ≤ 1048576) (he : ∀ y ∈ x, small'_InsS y) : ∀ (n i : Nat), i + n = x.length → Ev (fun k => laws_eqInsSS.l0 k x x i) true := by
  intro n
  induction n with
  | zero =>
    intro i hi
    refine Ev.step (f := fun _ => some true) (fun k => ?_) (ev_some rfl)
    simp only [laws_eqInsSS.l0]
    rw [if_neg (by omega)]
  | succ n ih =>
    intro i hi
    refine Ev.step (fun k => by simp only [laws_eqInsSS.l0]; rfl) ?_
    have hm : x.getD i [] ∈ x := by
      rw [List.getD_eq_getElem?_getD, List.getElem?_eq_getElem (show i < x.length by omega)]
      exact List.getElem_mem _
    rw [rd_L4_nat]
    refine ev_pos (by omega) (ev_pos (by omega) (ev_pos (by omega) (Ev.bind (eqInsS_ev _ (he _ hm)) (ev_pos rfl ?_))))
    rw [w64_nat (by omega)]
    exact ih (i + 1) (by omega)
theorem eqInsSS_ev (x : (List (List S63))) (h : small'_InsSS x) : Ev (fun k => laws_eqInsSS.f k x x) true := by
  unfold laws_eqInsSS.f
  have hx : x.length ≤ 1048576 := h.1
  exact ev_pos rfl (eqInsSS_l x hx h.2 x.length 0 (by omega))
theorem szInsSS_l (x : (List (List S65))) (hx : x.length ≤ 1048576) (hm : ∀ y ∈ x, y.length ≤ 9223372036854775807) : ∀ (n i : Nat) (a : Int), i + n = x.length → 0 ≤ a → a ≤ 1048576 → ∃ r, Ev (fun k => laws_szInsSS.l0 k x a i) r ∧ r ≤ a ∧ (0 ≤ r → ∀ j, i ≤ j → j < x.length → small_InsS (x.getD j [])) := by
  intro n
  induction n with
  | zero =>
    intro i a hi h0 h1
    refine ⟨a, Ev.step (f := fun _ => some a) (fun k => ?_) (ev_some rfl), Int.le_refl _, fun _ j h2 h3 => by omega⟩
    simp only [laws_szInsSS.l0]
    rw [if_neg (by omega)]
  | succ n ih =>
    intro i a hi h0 h1
    have hmem : x.getD i [] ∈ x := by
      rw [List.getD_eq_getElem?_getD, List.getElem?_eq_getElem (show i < x.length by omega)]
      exact List.getElem_mem _
    obtain ⟨q, hq, q1, q2⟩ := szInsS_ev (x.getD i []) (hm _ hmem) a h0 h1
    by_cases c : q < 0
    · refine ⟨-1, Ev.step (fun k => by simp only [laws_szInsSS.l0]; rfl) ?_, by omega, fun h => by omega⟩
      rw [rd_L2_nat]
      exact ev_pos (by omega) (ev_pos (by omega) (ev_bind0 hq (ev_pos c (ev_some rfl))))
    · obtain ⟨r, h, h2, h3⟩ := ih (i + 1) q (by omega) (by omega) (by omega)
      refine ⟨r, Ev.step (fun k => by simp only [laws_szInsSS.l0]; rfl) ?_, by omega, fun hr0 j h4 h5 => ?_⟩
      · rw [rd_L2_nat]
        refine ev_pos (by omega) (ev_pos (by omega) (ev_bind0 hq (ev_neg c ?_)))
        rw [w64_nat (by omega)]
        exact h
      · by_cases e : j = i
        · subst e
          exact q2 (by omega)
        · exact h3 hr0 j (by omega) h5
theorem szInsSS_ev (x : (List (List S65))) (hm : x.length ≤ 9223372036854775807 ∧ ∀ y ∈ x, y.length ≤ 9223372036854775807) (a : Int) (h0 : 0 ≤ a) (h1 : a ≤ 1048576) : ∃ r, Ev (fun k => laws_szInsSS.f k x a) r ∧ r ≤ a ∧ (0 ≤ r → small_InsSS x) := by
  unfold laws_szInsSS.f
  have hl := hm.1
  rw [w64 (x := a - (x.length : Int)) (by omega) (by omega)]
  by_cases c : a - (x.length : Int) < 0
  · exact ⟨-1, ev_pos c (ev_some rfl), by omega, fun h => by omega⟩
  · obtain ⟨r, h, h2, h3⟩ := szInsSS_l x (by omega) hm.2 x.length 0 _ (by omega) (show 0 ≤ a - (x.length : Int) by omega) (by omega)
    refine ⟨r, ev_neg c h, by omega, fun hr => ⟨by omega, fun y hy => ?_⟩⟩
    obtain ⟨j, hj⟩ := List.mem_iff_getElem?.1 hy
    have hlt := (List.getElem?_eq_some_iff.1 hj).1
    have := h3 hr j (by omega) hlt
    rw [List.getD_eq_getElem?_getD, hj] at this
    exact this
theorem toProg_ev (p0 : (List Int)) (p1 : (List (List S65))) (h0 : small_IntS p0) (h1 : small_InsSS p1) : Ev (fun k => laws_toProg.f k p0 p1) (p0, (conv_InsSS p1)) := by
  unfold laws_toProg.f
  exact Ev.bind (toIntS_ev _ h0) (Ev.bind (toInsSS_ev _ h1) (ev_some rfl))
theorem eqProg_ev (p0 : (List Int)) (p1 : (List (List S63))) (h0 : small_IntS p0) (h1 : small'_InsSS p1) : Ev (fun k => laws_eqProg.f k p0 p1 p0 p1) true := by
  unfold laws_eqProg.f
  exact Ev.bind (eqIntS_ev _ h0) (ev_pos rfl (Ev.bind (eqInsSS_ev _ h1) (ev_pos rfl (ev_some rfl))))
theorem szProg_ev (p0 : (List Int)) (p1 : (List (List S65))) (m0 : p0.length ≤ 9223372036854775807) (m1 : (p1.length ≤ 9223372036854775807 ∧ ∀ z ∈ p1, z.length ≤ 9223372036854775807)) (a : Int) (h0 : 0 ≤ a) (h1 : a ≤ 1048576) : ∃ r, Ev (fun k => laws_szProg.f k p0 p1 a) r ∧ r ≤ a ∧ (0 ≤ r → small_IntS p0 ∧ small_InsSS p1) := by
  unfold laws_szProg.f
  obtain ⟨r0, e0, b0, c0⟩ := szIntS_ev p0 m0 a (by omega) (by omega)
  by_cases d0 : r0 < 0
  · exact ⟨-1, ev_bind0 e0 (ev_pos d0 (ev_some rfl)), by omega, fun h => by omega⟩
  obtain ⟨r1, e1, b1, c1⟩ := szInsSS_ev p1 m1 r0 (by omega) (by omega)
  by_cases d1 : r1 < 0
  · exact ⟨-1, ev_bind0 e0 (ev_neg d0 (Ev.bind e1 (ev_pos d1 (ev_some rfl)))), by omega, fun h => by omega⟩
  exact ⟨r1, ev_bind0 e0 (ev_neg d0 (Ev.bind e1 (ev_neg d1 (ev_some rfl)))), by omega, fun _ => ⟨c0 (by omega), c1 (by omega)⟩⟩

end Go.Proofs.Ytocimkpafakiaaa.HlpFnExactTrimProg
