/- The program's LitOk is the reference's, at all lists of tests. -/
import Derived.Test.YtnnakemiaalggaaSayFnExactLitOk
import Derived.Test.YtnnakemiaalggaaLib
namespace Go.Proofs.Ytnnakemiaalggaa.Pure
open Go.RowKit Go.Proofs.Ytnnakemiaalggaa.XFnExactLitOk Go.Proofs.Ytnnakemiaalggaa.Lib Go.Proofs.Ytnnakemiaalggaa.Opens Go.Proofs.YtnnakemiaalggaaW.PrintWords Go.Proofs.YtnnakemiaalggaaW.PrintLast Go.Proofs.YtnnakemiaalggaaW.PrintMore
open Go.Proofs.Ytnnakemiaalggaa
set_option linter.unusedVariables false
set_option linter.unusedSimpArgs false

/-! ### the law's helpers -/
def conv (x : S97) : S73 := ⟨x.f0, x.f1, x.f2⟩
theorem toLitS_l (x : List S97) (hx : x.length ≤ 4611686018427387904) : ∀ (n i : Nat) (acc : List S73), i + n = x.length → acc.length = x.length → acc.take i = (x.take i).map conv → Ev (fun k => laws_toLitS.l0 k x acc i) (x.map conv) := by
  intro n
  induction n with
  | zero =>
    intro i acc hi hl h
    refine Ev.step (f := fun _ => some acc) (fun k => ?_) (ev_some (copy_end conv x acc i (by omega) hl h))
    simp only [laws_toLitS.l0]
    rw [if_neg (by omega)]
  | succ n ih =>
    intro i acc hi hl h
    refine Ev.step (f := fun k => laws_toLitS.l0 k x (acc.set i (conv (x.getD i z97))) ((i + 1 : Nat) : Int)) (fun k => ?_) (ih (i + 1) _ (by omega) (by simpa using hl) (copy_step conv x acc i z97 (by omega) hl h))
    simp only [laws_toLitS.l0]
    rw [if_pos (by omega), if_pos (by omega), w64_nat (by omega), Int.toNat_natCast]
    simp only [laws_toLit.f, Option.bind_some]
    rw [if_pos (by omega)]
    unfold rd_T97
    rw [Int.toNat_natCast]
    rfl
theorem toLitS_ev (x : List S97) (hx : x.length ≤ 1048576) : Ev (fun k => laws_toLitS.f k x) (x.map conv) := by
  unfold laws_toLitS.f
  refine ev_pos (by omega) (ev_pos (by omega) ?_)
  exact toLitS_l x (by omega) x.length 0 _ (by omega) (by simp) (by simp)
theorem toLitSS_l (x : List (List S97)) (hx : x.length ≤ 1048576) (he : ∀ y ∈ x, y.length ≤ 1048576) : ∀ (n i : Nat) (acc : List (List S73)), i + n = x.length → acc.length = x.length → acc.take i = (x.take i).map (List.map conv) → Ev (fun k => laws_toLitSS.l0 k x acc i) (x.map (List.map conv)) := by
  intro n
  induction n with
  | zero =>
    intro i acc hi hl h
    refine Ev.step (f := fun _ => some acc) (fun k => ?_) (ev_some (copy_end (List.map conv) x acc i (by omega) hl h))
    simp only [laws_toLitSS.l0]
    rw [if_neg (by omega)]
  | succ n ih =>
    intro i acc hi hl h
    refine Ev.step (fun k => by simp only [laws_toLitSS.l0]; rfl) ?_
    have hr : rd_L4 x (i : Int) = x.getD i [] := by unfold rd_L4; rw [Int.toNat_natCast]
    have hm : x.getD i [] ∈ x := by
      rw [List.getD_eq_getElem?_getD, List.getElem?_eq_getElem (show i < x.length by omega)]
      exact List.getElem_mem _
    rw [hr]
    refine ev_pos (by omega) (ev_pos (by omega) (Ev.bind (toLitS_ev _ (he _ hm)) (ev_pos (by omega) ?_)))
    rw [w64_nat (by omega), Int.toNat_natCast]
    exact ih (i + 1) _ (by omega) (by simpa using hl) (copy_step (List.map conv) x acc i [] (by omega) hl h)
theorem toLitSS_ev (x : List (List S97)) (hx : x.length ≤ 1048576) (he : ∀ y ∈ x, y.length ≤ 1048576) : Ev (fun k => laws_toLitSS.f k x) (x.map (List.map conv)) := by
  unfold laws_toLitSS.f
  refine ev_pos (by omega) (ev_pos (by omega) ?_)
  exact toLitSS_l x (by omega) he x.length 0 _ (by omega) (by simp) (by simp)
theorem eqLitS_l (x : List S73) (hx : x.length ≤ 1048576) : ∀ (n i : Nat), i + n = x.length → Ev (fun k => laws_eqLitS.l0 k x x i) true := by
  intro n
  induction n with
  | zero =>
    intro i hi
    refine Ev.step (f := fun _ => some true) (fun k => ?_) (ev_some rfl)
    simp only [laws_eqLitS.l0]
    rw [if_neg (by omega)]
  | succ n ih =>
    intro i hi
    refine Ev.step (fun k => ?_) (ih (i + 1) (by omega))
    simp only [laws_eqLitS.l0]
    rw [if_pos (by omega), if_pos (by omega), if_pos (by omega), w64_nat (by omega)]
    simp [laws_eqLit.f]
theorem eqLitS_ev (x : List S73) (hx : x.length ≤ 1048576) : Ev (fun k => laws_eqLitS.f k x x) true := by
  unfold laws_eqLitS.f
  exact ev_pos rfl (eqLitS_l x (by omega) x.length 0 (by omega))
theorem eqLitSS_l (x : List (List S73)) (hx : x.length ≤ 1048576) (he : ∀ y ∈ x, y.length ≤ 1048576) : ∀ (n i : Nat), i + n = x.length → Ev (fun k => laws_eqLitSS.l0 k x x i) true := by
  intro n
  induction n with
  | zero =>
    intro i hi
    refine Ev.step (f := fun _ => some true) (fun k => ?_) (ev_some rfl)
    simp only [laws_eqLitSS.l0]
    rw [if_neg (by omega)]
  | succ n ih =>
    intro i hi
    refine Ev.step (fun k => by simp only [laws_eqLitSS.l0]; rfl) ?_
    have hr : rd_L2 x (i : Int) = x.getD i [] := by unfold rd_L2; rw [Int.toNat_natCast]
    have hm : x.getD i [] ∈ x := by
      rw [List.getD_eq_getElem?_getD, List.getElem?_eq_getElem (show i < x.length by omega)]
      exact List.getElem_mem _
    rw [hr]
    refine ev_pos (by omega) (ev_pos (by omega) (ev_pos (by omega) (Ev.bind (eqLitS_ev _ (he _ hm)) (ev_pos rfl ?_))))
    rw [w64_nat (by omega)]
    exact ih (i + 1) (by omega)
theorem eqLitSS_ev (x : List (List S73)) (hx : x.length ≤ 1048576) (he : ∀ y ∈ x, y.length ≤ 1048576) : Ev (fun k => laws_eqLitSS.f k x x) true := by
  unfold laws_eqLitSS.f
  exact ev_pos rfl (eqLitSS_l x (by omega) he x.length 0 (by omega))
/-- What is left of the size, once the rows from i on are taken off. -/
theorem szLitSS_l (x : List (List S97)) (hx : x.length ≤ 1048576) (hm : ∀ y ∈ x, y.length ≤ 9223372036854775807) : ∀ (n i : Nat) (a : Int), i + n = x.length → 0 ≤ a → a ≤ 1048576 → ∃ r, Ev (fun k => laws_szLitSS.l0 k x a i) r ∧ (0 ≤ r → ∀ j, i ≤ j → j < x.length → (x.getD j []).length ≤ 1048576) := by
  intro n
  induction n with
  | zero =>
    intro i a hi h0 h1
    refine ⟨a, Ev.step (f := fun _ => some a) (fun k => ?_) (ev_some rfl), fun _ j h2 h3 => by omega⟩
    simp only [laws_szLitSS.l0]
    rw [if_neg (by omega)]
  | succ n ih =>
    intro i a hi h0 h1
    have hr : rd_L4 x (i : Int) = x.getD i [] := by unfold rd_L4; rw [Int.toNat_natCast]
    have hmem : x.getD i [] ∈ x := by
      rw [List.getD_eq_getElem?_getD, List.getElem?_eq_getElem (show i < x.length by omega)]
      exact List.getElem_mem _
    have hl := hm _ hmem
    have e1 : wrap64 (a - ((x.getD i []).length : Int)) = a - ((x.getD i []).length : Int) := w64 (by omega) (by omega)
    by_cases c : a - ((x.getD i []).length : Int) < 0
    · refine ⟨-1, Ev.step (f := fun _ => some (-1)) (fun k => ?_) (ev_some rfl), fun h => by omega⟩
      simp only [laws_szLitSS.l0]
      rw [if_pos (by omega), if_pos (by omega), hr]
      unfold laws_szLitS.f
      rw [e1, if_pos c]
      rfl
    · obtain ⟨r, h, h2⟩ := ih (i + 1) (a - ((x.getD i []).length : Int)) (by omega) (by omega) (by omega)
      refine ⟨r, Ev.step (fun k => ?_) h, fun hr0 j h3 h4 => ?_⟩
      · simp only [laws_szLitSS.l0]
        rw [if_pos (by omega), if_pos (by omega), hr]
        unfold laws_szLitS.f
        rw [e1, if_neg c]
        simp only [Option.bind_some]
        rw [if_neg c, w64_nat (by omega)]
      · by_cases e : j = i
        · subst e
          omega
        · exact h2 hr0 j (by omega) h4
theorem szLitSS_ev (x : List (List S97)) (hx : x.length ≤ 9223372036854775807) (hm : ∀ y ∈ x, y.length ≤ 9223372036854775807) : ∃ r, Ev (fun k => laws_szLitSS.f k x 1048576) r ∧ (0 ≤ r → x.length ≤ 1048576 ∧ ∀ y ∈ x, y.length ≤ 1048576) := by
  unfold laws_szLitSS.f
  have e1 : wrap64 (1048576 - (x.length : Int)) = 1048576 - (x.length : Int) := w64 (by omega) (by omega)
  rw [e1]
  by_cases c : 1048576 - (x.length : Int) < 0
  · exact ⟨-1, ev_pos c (ev_some rfl), fun h => by omega⟩
  · obtain ⟨r, h, h2⟩ := szLitSS_l x (by omega) hm x.length 0 _ (by omega) (show 0 ≤ 1048576 - (x.length : Int) by omega) (by omega)
    refine ⟨r, ev_neg c h, fun hr => ⟨by omega, fun y hy => ?_⟩⟩
    obtain ⟨j, hj⟩ := List.mem_iff_getElem?.1 hy
    have hlt := (List.getElem?_eq_some_iff.1 hj).1
    have := h2 hr j (by omega) hlt
    rw [List.getD_eq_getElem?_getD, hj] at this
    exact this

/-! ### the two functions side by side -/
theorem ev_step2 {α : Type} {g f : Nat → Option α} {r : α} (h : ∀ k, g (k + 2) = f k) (k : Ev f r) : Ev g r := by
  obtain ⟨K, k⟩ := k
  refine ⟨K + 2, fun n hn => ?_⟩
  obtain ⟨m, rfl⟩ : ∃ m, n = m + 2 := ⟨n - 2, by omega⟩
  rw [h]
  exact k m (by omega)
theorem in_eq (a b c : Int) : spec_l1In.f a b c = some (decide (b ≤ a ∧ a ≤ c)) := by
  unfold spec_l1In.f
  by_cases h : a ≥ b
  · simp [h]
  · simp [h]
theorem within_eq (a b c : Int) : impl_within.f a b c = some (decide (b ≤ a ∧ a ≤ c)) := in_eq a b c
/-- A test that is right. -/
def Good (x : S73) : Prop := (1 ≤ x.f0 ∧ x.f0 ≤ 5) ∧ (0 ≤ x.f1 ∧ x.f1 ≤ 2) ∧ (0 ≤ x.f2 ∧ x.f2 ≤ 9) ∧ (x.f0 = 1 ∨ x.f0 = 2 → x.f2 = 0)
instance (x : S73) : Decidable (Good x) := by unfold Good; infer_instance
theorem spec_round (x : List (List S73)) (n : Int) (i j : Nat) (hi : i < x.length) (hb : x.length ≤ 1048576) (hj : j < (x.getD i []).length) (hl : (x.getD i []).length ≤ 1048576) (k : Nat) :
    spec_LitOk.l1 (k + 2) x n i j = if Good ((x.getD i []).getD j z73) then spec_LitOk.l1 k x n i ((j + 1 : Nat) : Int) else some false := by
  have hr : rd_L2 x (i : Int) = x.getD i [] := by unfold rd_L2; rw [Int.toNat_natCast]
  have hr2 : rd_T73 (x.getD i []) (j : Int) = (x.getD i []).getD j z73 := by unfold rd_T73; rw [Int.toNat_natCast]
  rw [spec_LitOk.l1, if_pos (by omega), if_pos (by omega), hr, if_pos (by omega), if_pos (by omega), hr2]
  generalize (x.getD i []).getD j z73 = t
  have hb2 : (if t.f0 = 1 then spec_LitOk.j2 (k + 1) x n i j true t.f0 t.f1 t.f2 else spec_LitOk.j2 (k + 1) x n i j (t.f0 == 2) t.f0 t.f1 t.f2) = spec_LitOk.j2 (k + 1) x n i j (decide (t.f0 = 1 ∨ t.f0 = 2)) t.f0 t.f1 t.f2 := by
    by_cases c : t.f0 = 1
    · simp [c]
    · rw [if_neg c]
      by_cases c2 : t.f0 = 2
      · simp [c2]
      · rw [beq_eq_false_iff_ne.mpr c2]
        simp [c, c2]
  rw [hb2, spec_LitOk.j2]
  simp only [in_eq, Option.bind_some, w64_nat (show j ≤ 4611686018427387904 by omega)]
  unfold Good
  by_cases c1 : 1 ≤ t.f0 ∧ t.f0 ≤ 5
  · by_cases c2 : 0 ≤ t.f1 ∧ t.f1 ≤ 2
    · by_cases c3 : 0 ≤ t.f2 ∧ t.f2 ≤ 9
      · by_cases c4 : t.f0 = 1 ∨ t.f0 = 2
        · by_cases c5 : t.f2 = 0 <;> simp [c1, c2, c3, c4, c5]
        · simp [c1, c2, c3, c4]
      · simp [c1, c2, c3]
    · simp [c1, c2]
  · simp [c1]
theorem impl_round (x : List (List S73)) (n : Int) (y : List S73) (a b : Int) (z : List (List S73)) (w : List S73) (j : Nat) (hj : j < w.length) (hl : w.length ≤ 1048576) (k : Nat) :
    impl_LitOk.l1 (k + 1) x n y z a b w (w.length : Int) j = if Good (w.getD j z73) then impl_LitOk.l1 k x n y z a b w (w.length : Int) ((j + 1 : Nat) : Int) else some false := by
  have hr2 : rd_T73 w (j : Int) = w.getD j z73 := by unfold rd_T73; rw [Int.toNat_natCast]
  rw [impl_LitOk.l1, if_pos (by omega), if_pos (by omega), if_pos (by omega), hr2]
  generalize w.getD j z73 = t
  simp only [within_eq, Option.bind_some, w64_nat (show j ≤ 4611686018427387904 by omega), impl_Lit_reads.f]
  unfold Good
  by_cases c1 : 1 ≤ t.f0 ∧ t.f0 ≤ 5
  · by_cases c2 : 0 ≤ t.f1 ∧ t.f1 ≤ 2
    · by_cases c3 : 0 ≤ t.f2 ∧ t.f2 ≤ 9
      · by_cases c5 : t.f2 = 0
        · simp [c1, c2, c3, c5]
        · by_cases c4 : t.f0 = 1
          · simp [c2, c3, c4, c5]
          · by_cases c6 : t.f0 = 2 <;> simp [c1, c2, c3, c4, c5, c6]
      · simp [c1, c2, c3]
    · simp [c1, c2]
  · simp [c1]
theorem inner (x : List (List S73)) (hb : x.length ≤ 1048576) (n : Int) (hn : 0 ≤ n) (hn2 : n ≤ 2305843009213693952) (i : Nat) (hi : i < x.length) (hl : (x.getD i []).length ≤ 1048576)
    (next : ∃ r, Ev (fun k => spec_LitOk.l0 k x (n + ((x.getD i []).length : Int)) ((i + 1 : Nat) : Int)) r ∧ Ev (fun k => impl_LitOk.l0 k x (n + ((x.getD i []).length : Int)) x (x.length : Int) ((i + 1 : Nat) : Int)) r) :
    ∀ (m j : Nat), j + m = (x.getD i []).length → ∃ r, Ev (fun k => spec_LitOk.l1 k x (n + ((x.getD i []).length : Int)) i j) r ∧ Ev (fun k => impl_LitOk.l1 k x n (x.getD i []) x (x.length : Int) i (x.getD i []) ((x.getD i []).length : Int) j) r := by
  intro m
  have hr : rd_L2 x (i : Int) = x.getD i [] := by unfold rd_L2; rw [Int.toNat_natCast]
  induction m with
  | zero =>
    intro j hj
    obtain ⟨r, h1, h2⟩ := next
    refine ⟨r, Ev.step (fun k => ?_) h1, Ev.step (fun k => ?_) h2⟩
    · rw [spec_LitOk.l1, if_pos (by omega), if_pos (by omega), hr, if_neg (by omega), w64_nat (by omega)]
    · rw [impl_LitOk.l1, if_neg (by omega), w64_nat (by omega), w64 (by omega) (by omega)]
  | succ m ih =>
    intro j hj
    by_cases c : Good ((x.getD i []).getD j z73)
    · obtain ⟨r, h1, h2⟩ := ih (j + 1) (by omega)
      refine ⟨r, ev_step2 (fun k => ?_) h1, Ev.step (fun k => ?_) h2⟩
      · rw [spec_round x _ i j hi hb (by omega) hl, if_pos c]
      · rw [impl_round x n _ _ _ _ _ j (by omega) hl, if_pos c]
    · refine ⟨false, ev_step2 (f := fun _ => some false) (fun k => ?_) (ev_some rfl), Ev.step (f := fun _ => some false) (fun k => ?_) (ev_some rfl)⟩
      · rw [spec_round x _ i j hi hb (by omega) hl, if_neg c]
      · rw [impl_round x n _ _ _ _ _ j (by omega) hl, if_neg c]
theorem outer (x : List (List S73)) (hb : x.length ≤ 1048576) (he : ∀ y ∈ x, y.length ≤ 1048576) : ∀ (m i : Nat) (n : Int), i + m = x.length → 0 ≤ n → n ≤ 1048576 * (i : Int) → ∃ r, Ev (fun k => spec_LitOk.l0 k x n i) r ∧ Ev (fun k => impl_LitOk.l0 k x n x (x.length : Int) i) r := by
  intro m
  induction m with
  | zero =>
    intro i n hi h0 h1
    by_cases c : 1 ≤ (x.length : Int) ∧ (x.length : Int) ≤ 3
    · refine ⟨decide (n ≤ 5), Ev.step (f := fun _ => some (decide (n ≤ 5))) (fun k => ?_) (ev_some rfl), Ev.step (f := fun _ => some (decide (n ≤ 5))) (fun k => ?_) (ev_some rfl)⟩
      · rw [spec_LitOk.l0, if_neg (by omega), in_eq]
        simp [c]
      · rw [impl_LitOk.l0, if_neg (by omega), within_eq]
        simp [c]
    · refine ⟨false, Ev.step (f := fun _ => some false) (fun k => ?_) (ev_some rfl), Ev.step (f := fun _ => some false) (fun k => ?_) (ev_some rfl)⟩
      · rw [spec_LitOk.l0, if_neg (by omega), in_eq]
        simp [c]
      · rw [impl_LitOk.l0, if_neg (by omega), within_eq]
        simp [c]
  | succ m ih =>
    intro i n hi h0 h1
    have hr : rd_L2 x (i : Int) = x.getD i [] := by unfold rd_L2; rw [Int.toNat_natCast]
    have hm : x.getD i [] ∈ x := by
      rw [List.getD_eq_getElem?_getD, List.getElem?_eq_getElem (show i < x.length by omega)]
      exact List.getElem_mem _
    have hl := he _ hm
    have next := ih (i + 1) (n + ((x.getD i []).length : Int)) (by omega) (by omega) (by omega)
    obtain ⟨r, h2, h3⟩ := inner x hb n h0 (by omega) i (by omega) hl next _ 0 (Nat.zero_add _)
    refine ⟨r, Ev.step (fun k => ?_) h2, Ev.step (fun k => ?_) h3⟩
    · rw [spec_LitOk.l0, if_pos (by omega), if_pos (by omega), hr, w64 (by omega) (by omega)]
      rfl
    · rw [impl_LitOk.l0, if_pos (by omega), if_pos (by omega), if_pos (by omega), hr]
      rfl
theorem FnExactLitOk : SayFnExactLitOk.Pure := by
  intro x hx
  refine Ev.rounds ?_
  obtain ⟨s, hs, hs2⟩ := szLitSS_ev x hx.1 (fun y hy => (hx.2 y hy).1)
  unfold laws_FnExactLitOk.f
  refine Ev.bind hs (ev_ite (fun _ => ev_some rfl) (fun c => ?_))
  obtain ⟨b1, b2⟩ := hs2 (by omega)
  have ht := toLitSS_ev x b1 b2
  have b3 : ∀ y ∈ x.map (List.map conv), y.length ≤ 1048576 := by
    intro y hy
    obtain ⟨z, hz, rfl⟩ := List.mem_map.1 hy
    rw [List.length_map]
    exact b2 z hz
  have b4 : (x.map (List.map conv)).length ≤ 1048576 := by rw [List.length_map]; exact b1
  obtain ⟨r, h1, h2⟩ := outer (x.map (List.map conv)) b4 b3 _ 0 0 (Nat.zero_add _) (by omega) (by omega)
  have g1 : Ev (fun k => spec_LitOk.f k (x.map (List.map conv))) r := h1
  have g2 : Ev (fun k => impl_LitOk.f k (x.map (List.map conv))) r := h2
  refine Ev.bind ht (Ev.bind g1 (Ev.bind ht (Ev.bind g2 (ev_neg (by simp) (Ev.bind ht (Ev.bind (eqLitSS_ev _ b4 b3) (ev_pos rfl (ev_some rfl))))))))
end Go.Proofs.Ytnnakemiaalggaa.Pure
