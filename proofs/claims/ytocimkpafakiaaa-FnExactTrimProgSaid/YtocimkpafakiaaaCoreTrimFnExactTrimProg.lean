/- Sorted rows: what a row of numbers is, sorted and each number told once; and which numbers lie in it; for all rows. -/
import Derived.Test.YtocimkpafakiaaaWalkFnExactTrimProg
import Derived.Test.YtocimkpafakiaaaLib
import Derived.Lib.SlicesCompact
import Derived.Test.YtocimkpafakiaaaCoreFlowFnExactTrimProg
namespace Go.Proofs.Ytocimkpafakiaaa.CoreSortedFnExactTrimProg
open Go.RowKit Go.Proofs.Ytocimkpafakiaaa.XFnExactTrimProg Go.Proofs.Ytocimkpafakiaaa.Lib
set_option linter.unusedVariables false
set_option linter.unusedSimpArgs false

theorem inc_ext : ∀ (a b : List Int), a.Pairwise (· < ·) → b.Pairwise (· < ·) → (∀ v, v ∈ a ↔ v ∈ b) → a = b := by
  intro a
  induction a with
  | nil =>
    intro b _ _ h
    cases b with
    | nil => rfl
    | cons y b => exact absurd ((h y).2 (by simp)) (by simp)
  | cons x a ih =>
    intro b ha hb h
    cases b with
    | nil => exact absurd ((h x).1 (by simp)) (by simp)
    | cons y b =>
      rw [List.pairwise_cons] at ha hb
      have h1 := (h x).1 (by simp)
      have h2 := (h y).2 (by simp)
      rw [List.mem_cons] at h1 h2
      have e : x = y := by
        rcases h1 with h1 | h1
        · exact h1
        · rcases h2 with h2 | h2
          · exact h2.symm
          · have := ha.1 y h2
            have := hb.1 x h1
            omega
      subst e
      rw [ih b ha.2 hb.2 (fun v => ?_)]
      have hv := h v
      rw [List.mem_cons, List.mem_cons] at hv
      refine ⟨fun hm => ?_, fun hm => ?_⟩
      · rcases hv.1 (.inr hm) with e | e
        · subst e
          have := ha.1 v hm
          omega
        · exact e
      · rcases hv.2 (.inr hm) with e | e
        · subst e
          have := hb.1 v hm
          omega
        · exact e
theorem comp_upto (d : Array Int) (hs : ∀ i j : Nat, i ≤ j → j < d.size → d[i]! ≤ d[j]!) : ∀ m, m ≤ d.size →
    (Go.Lib.compactUpTo d m).Pairwise (· < ·) ∧ (∀ v ∈ Go.Lib.compactUpTo d m, ∃ j, j < m ∧ v = d[j]!) ∧ ∀ j, j < m → d[j]! ∈ Go.Lib.compactUpTo d m := by
  intro m
  induction m with
  | zero => exact fun _ => ⟨by simp [Go.Lib.compactUpTo], fun v hv => by simp [Go.Lib.compactUpTo] at hv, fun j hj => absurd hj (Nat.not_lt_zero _)⟩
  | succ m ih =>
    intro hm
    obtain ⟨h1, h2, h3⟩ := ih (by omega)
    rw [Go.Lib.compactUpTo_succ]
    by_cases hk : Go.Lib.keeps d m = true
    · rw [if_pos hk]
      refine ⟨?_, fun v hv => ?_, fun j hj => ?_⟩
      · rw [List.pairwise_append]
        refine ⟨h1, by simp, fun a ha b hb => ?_⟩
        rw [List.mem_singleton] at hb
        subst hb
        obtain ⟨j, hj, rfl⟩ := h2 a ha
        have e1 := hs j (m - 1) (by omega) (by omega)
        have e2 := hs (m - 1) m (by omega) (by omega)
        have e3 : d[m]! ≠ d[m - 1]! := by
          rcases (of_decide_eq_true hk : m = 0 ∨ d[m]! ≠ d[m - 1]!) with h | h
          · omega
          · exact h
        show d[j]! < d[m]!
        omega
      · rw [List.mem_append, List.mem_singleton] at hv
        rcases hv with hv | hv
        · obtain ⟨j, hj, e⟩ := h2 v hv
          exact ⟨j, by omega, e⟩
        · exact ⟨m, by omega, hv⟩
      · rw [List.mem_append, List.mem_singleton]
        by_cases e : j = m
        · exact .inr (by rw [e])
        · exact .inl (h3 j (by omega))
    · rw [if_neg hk, List.append_nil]
      have hk' : ¬ (m = 0 ∨ d[m]! ≠ d[m - 1]!) := fun h => hk (decide_eq_true h)
      have hm0 : m ≠ 0 := fun h => hk' (.inl h)
      have he : d[m]! = d[m - 1]! := Classical.not_not.1 (fun h => hk' (.inr h))
      refine ⟨h1, fun v hv => ?_, fun j hj => ?_⟩
      · obtain ⟨j, hj, e⟩ := h2 v hv
        exact ⟨j, by omega, e⟩
      · by_cases e : j = m
        · rw [e, he]
          exact h3 (m - 1) (by omega)
        · exact h3 j (by omega)
/-- What is told of a row: its numbers ascending, each once. -/
theorem comp_sorted (l : List Int) : (Go.Lib.compact (sorted l)).Pairwise (· < ·) ∧ ∀ v, v ∈ Go.Lib.compact (sorted l) ↔ v ∈ l := by
  have hp : (sorted l).Pairwise (fun a b => decide (a ≤ b) = true) := List.pairwise_mergeSort (fun a b c h1 h2 => by simp at h1 h2 ⊢; omega) (fun a b => by simp; omega) l
  have hm : ∀ v, v ∈ sorted l ↔ v ∈ l := fun v => List.mem_mergeSort
  have hg : ∀ i : Nat, i < (sorted l).length → (sorted l).toArray[i]! = (sorted l).getD i 0 := fun i hi => by
    simp [List.getD_eq_getElem?_getD, List.getElem?_eq_getElem hi, getElem!_pos, hi]
  have hs : ∀ i j : Nat, i ≤ j → j < (sorted l).toArray.size → (sorted l).toArray[i]! ≤ (sorted l).toArray[j]! := by
    intro i j hij hj
    have hj' : j < (sorted l).length := by simpa using hj
    by_cases e : i = j
    · subst e
      exact Int.le_refl _
    · have h := (List.pairwise_iff_getElem.1 hp) i j (by omega) hj' (by omega)
      rw [hg i (by omega), hg j hj', List.getD_eq_getElem?_getD, List.getElem?_eq_getElem (by omega), List.getD_eq_getElem?_getD, List.getElem?_eq_getElem hj']
      simpa using h
  obtain ⟨h1, h2, h3⟩ := comp_upto (sorted l).toArray hs (sorted l).length (by simp)
  refine ⟨h1, fun v => ⟨fun hv => ?_, fun hv => ?_⟩⟩
  · obtain ⟨j, hj, rfl⟩ := h2 v hv
    rw [← hm, hg j hj, List.getD_eq_getElem?_getD, List.getElem?_eq_getElem hj]
    exact List.getElem_mem hj
  · obtain ⟨j, hj, rfl⟩ := List.mem_iff_getElem.1 ((hm v).2 hv)
    have := h3 j hj
    rw [hg j hj, List.getD_eq_getElem?_getD, List.getElem?_eq_getElem hj] at this
    exact this
end Go.Proofs.Ytocimkpafakiaaa.CoreSortedFnExactTrimProg

namespace Go.Proofs.Ytocimkpafakiaaa.CoreLiveFnExactTrimProg
open Go.RowKit Go.Proofs.Ytocimkpafakiaaa.XFnExactTrimProg Go.Proofs.Ytocimkpafakiaaa.Lib Go.Proofs.Ytocimkpafakiaaa.CoreInsFnExactTrimProg Go.Proofs.Ytocimkpafakiaaa.CoreBodyFnExactTrimProg Go.Proofs.Ytocimkpafakiaaa.CoreFlowFnExactTrimProg Go.Proofs.Ytocimkpafakiaaa.CoreSortedFnExactTrimProg Go.Proofs.YtocimkpafakiaaaW.PrintWords Go.Proofs.YtocimkpafakiaaaW.PrintLast Go.Proofs.YtocimkpafakiaaaW.PrintMore
set_option linter.unusedVariables false
set_option linter.unusedSimpArgs false

/-- The places below n whose mark is b, ascending. -/
def wh (r : List Bool) (b : Bool) : Nat → List Int
  | 0 => []
  | n + 1 => if (r.getD n false == b) = true then wh r b n ++ [(n : Int)] else wh r b n
theorem wh_hit (r : List Bool) (b : Bool) (n : Nat) (h : (r.getD n false == b) = true) : wh r b (n + 1) = wh r b n ++ [(n : Int)] := if_pos h
theorem wh_miss (r : List Bool) (b : Bool) (n : Nat) (h : ¬ (r.getD n false == b) = true) : wh r b (n + 1) = wh r b n := if_neg h
theorem wh_len (r : List Bool) (b : Bool) (n : Nat) : (wh r b n).length ≤ n := by
  induction n with
  | zero => exact Nat.le_refl _
  | succ n ih =>
    by_cases h : (r.getD n false == b) = true
    · rw [wh_hit r b n h, List.length_append]
      simp
      omega
    · rw [wh_miss r b n h]
      omega
theorem wh_mem (r : List Bool) (b : Bool) (n : Nat) (y : Int) : y ∈ wh r b n ↔ ∃ j : Nat, y = (j : Int) ∧ j < n ∧ r.getD j false = b := by
  induction n with
  | zero =>
    refine ⟨fun h => (by cases h), fun ⟨j, _, h, _⟩ => absurd h (Nat.not_lt_zero _)⟩
  | succ n ih =>
    by_cases h : (r.getD n false == b) = true
    · rw [wh_hit r b n h, List.mem_append, List.mem_singleton, ih]
      constructor
      · rintro (⟨j, h1, h2, h3⟩ | h1)
        · exact ⟨j, h1, by omega, h3⟩
        · exact ⟨n, h1, by omega, by simpa using h⟩
      · rintro ⟨j, h1, h2, h3⟩
        by_cases e : j = n
        · exact .inr (e ▸ h1)
        · exact .inl ⟨j, h1, by omega, h3⟩
    · rw [wh_miss r b n h, ih]
      constructor
      · rintro ⟨j, h1, h2, h3⟩
        exact ⟨j, h1, by omega, h3⟩
      · rintro ⟨j, h1, h2, h3⟩
        by_cases e : j = n
        · subst e
          exact absurd (by rw [h3]; simp) h
        · exact ⟨j, h1, by omega, h3⟩
theorem wh_inc (r : List Bool) (b : Bool) (n : Nat) : (wh r b n).Pairwise (· < ·) := by
  induction n with
  | zero => exact List.Pairwise.nil
  | succ n ih =>
    by_cases h : (r.getD n false == b) = true
    · rw [wh_hit r b n h, List.pairwise_append]
      refine ⟨ih, by simp, fun a ha c hc => ?_⟩
      obtain ⟨j, rfl, hj, _⟩ := (wh_mem r b n a).1 ha
      rw [List.mem_singleton] at hc
      subst hc
      omega
    · rw [wh_miss r b n h]
      exact ih
theorem places_l (r : List Bool) (b : Bool) (hr : r.length ≤ 1048576) : ∀ (n i : Nat), i + n = r.length → Ev (fun k => spec_l18Places.l0 k r b (wh r b i) i) (wh r b r.length) := by
  intro n
  induction n with
  | zero =>
    intro i hi
    refine Ev.step (f := fun _ => some (wh r b r.length)) (fun k => ?_) (ev_some rfl)
    rw [spec_l18Places.l0, if_neg (by omega), show i = r.length by omega]
  | succ n ih =>
    intro i hi
    have hp := wh_len r b i
    have hrd : rdOf false r (i : Int) = r.getD i false := by unfold rdOf; rw [Int.toNat_natCast]
    have h2 := ih (i + 1) (by omega)
    by_cases c : (r.getD i false == b) = true
    · rw [wh_hit r b i c] at h2
      refine Ev.step (fun k => ?_) h2
      rw [spec_l18Places.l0, if_pos (by omega), if_pos (by omega), if_pos (by rw [hrd]; exact c), if_pos (by omega), w64_nat (by omega)]
    · rw [wh_miss r b i c] at h2
      refine Ev.step (fun k => ?_) h2
      rw [spec_l18Places.l0, if_pos (by omega), if_pos (by omega), if_neg (by rw [hrd]; exact c), w64_nat (by omega)]
theorem places_ev (r : List Bool) (b : Bool) (hr : r.length ≤ 1048576) : Ev (fun k => spec_l18Places.f k r b) (wh r b r.length) := places_l r b hr r.length 0 (by omega)

/-! ### what a place reads and sets -/
def rdsL (x : S63) : List Int := if x.f0 = 2 ∨ x.f0 = 3 ∨ x.f0 = 4 then [x.f2, x.f3] else if x.f0 = 5 ∨ x.f0 = 7 ∨ x.f0 = 10 ∨ x.f0 = 12 then [x.f2] else []
def setsL (x : S63) : List Int := if x.f0 = 1 ∨ x.f0 = 2 ∨ x.f0 = 3 ∨ x.f0 = 4 ∨ x.f0 = 7 then [x.f1] else if x.f0 = 6 ∨ x.f0 = 8 then [x.f1, x.f3] else []
theorem ev_one {α : Type} {g : Nat → Option α} {r : α} (h : ∀ k, g (k + 1) = some r) : Ev g r := ⟨1, fun n hn => by obtain ⟨m, rfl⟩ : ∃ m, n = m + 1 := ⟨n - 1, by omega⟩; exact h m⟩
theorem spec_reads (x : S63) : Ev (fun k => spec_Reads.f k x.f0 x.f1 x.f2 x.f3 x.f4) (rdsL x) := ev_one fun k => by
  unfold spec_Reads.f rdsL
  simp only [spec_Reads.j0]
  by_cases h2 : x.f0 = 2
  · simp [h2]
  by_cases h3 : x.f0 = 3
  · simp [h3]
  by_cases h4 : x.f0 = 4
  · simp [h4]
  simp only [h2, h3, h4, if_false, or_self]
  by_cases h5 : x.f0 = 5
  · simp [h5]
  by_cases h7 : x.f0 = 7
  · simp [h7]
  by_cases h10 : x.f0 = 10
  · simp [h10]
  by_cases h12 : x.f0 = 12
  · simp [h12]
  simp [h4, h5, h7, h10, h12]
theorem impl_reads (x : S63) : Ev (fun k => impl_Reads.f k x.f0 x.f1 x.f2 x.f3 x.f4) (rdsL x) := ev_one fun k => by
  unfold impl_Reads.f rdsL
  simp only [impl_Reads.j0]
  by_cases h2 : x.f0 = 2
  · simp [h2]
  by_cases h3 : x.f0 = 3
  · simp [h3]
  by_cases h4 : x.f0 = 4
  · simp [h4]
  simp only [h2, h3, h4, if_false, or_self]
  by_cases h5 : x.f0 = 5
  · simp [h5]
  by_cases h7 : x.f0 = 7
  · simp [h7]
  by_cases h10 : x.f0 = 10
  · simp [h10]
  by_cases h12 : x.f0 = 12
  · simp [h12]
  simp [h4, h5, h7, h10, h12]
theorem spec_sets (x : S63) : Ev (fun k => spec_Sets.f k x.f0 x.f1 x.f2 x.f3 x.f4) (setsL x) := ev_one fun k => by
  unfold spec_Sets.f setsL
  simp only [spec_Sets.j0]
  by_cases h1 : x.f0 = 1
  · simp [h1]
  by_cases h2 : x.f0 = 2
  · simp [h2]
  by_cases h3 : x.f0 = 3
  · simp [h3]
  by_cases h4 : x.f0 = 4
  · simp [h4]
  by_cases h7 : x.f0 = 7
  · simp [h7]
  by_cases h6 : x.f0 = 6
  · simp [h6]
  by_cases h8 : x.f0 = 8
  · simp [h8]
  simp [h1, h2, h3, h4, h6, h7, h8]
theorem impl_sets (x : S63) : Ev (fun k => impl_Sets.f k x.f0 x.f1 x.f2 x.f3 x.f4) (setsL x) := ev_one fun k => by
  unfold impl_Sets.f setsL
  simp only [impl_Sets.j0]
  by_cases h1 : x.f0 = 1
  · simp [h1]
  by_cases h2 : x.f0 = 2
  · simp [h2]
  by_cases h3 : x.f0 = 3
  · simp [h3]
  by_cases h4 : x.f0 = 4
  · simp [h4]
  by_cases h7 : x.f0 = 7
  · simp [h7]
  by_cases h6 : x.f0 = 6
  · simp [h6]
  by_cases h8 : x.f0 = 8
  · simp [h8]
  simp [h1, h2, h3, h4, h6, h7, h8]

/-! ### a number in a row; two rows alike -/
theorem drop_nat (q : List Int) (i : Nat) (h : i < q.length) : q.drop i = rd q (i : Int) :: q.drop (i + 1) := by
  rw [List.drop_eq_getElem_cons h, rd_nat, List.getD_eq_getElem?_getD, List.getElem?_eq_getElem h]
  rfl
theorem in_l (q : List Int) (v : Int) (hq : q.length ≤ 1048576) : ∀ (n i : Nat), i + n = q.length → Ev (fun k => spec_l18In.l0 k q v i) (decide (v ∈ q.drop i)) := by
  intro n
  induction n with
  | zero =>
    intro i hi
    rw [List.drop_of_length_le (by omega)]
    refine Ev.step (f := fun _ => some false) (fun k => ?_) (ev_some (by simp))
    rw [spec_l18In.l0, if_neg (by omega)]
  | succ n ih =>
    intro i hi
    rw [drop_nat q i (by omega)]
    by_cases c : rd q (i : Int) = v
    · refine Ev.step (f := fun _ => some true) (fun k => ?_) (ev_some (by simp [c]))
      rw [spec_l18In.l0, if_pos (by omega), if_pos (by omega), if_pos c]
    · have e : decide (v ∈ rd q (i : Int) :: q.drop (i + 1)) = decide (v ∈ q.drop (i + 1)) := by
        have c' : ¬ v = rd q (i : Int) := fun h => c h.symm
        simp [List.mem_cons, c']
      rw [e]
      refine Ev.step (fun k => ?_) (ih (i + 1) (by omega))
      rw [spec_l18In.l0, if_pos (by omega), if_pos (by omega), if_neg c, w64_nat (by omega)]
theorem in_ev (q : List Int) (v : Int) (hq : q.length ≤ 1048576) : Ev (fun k => spec_l18In.f k q v) (decide (v ∈ q)) := in_l q v hq q.length 0 (by omega)
theorem index_l (q : List Int) (v : Int) (hq : q.length ≤ 1048576) : ∀ (n i : Nat), i + n = q.length → ∃ r : Int, Ev (fun k => slices_Index_int_int.l0 k q v (q.length : Int) i) r ∧ decide (r ≥ 0) = decide (v ∈ q.drop i) := by
  intro n
  induction n with
  | zero =>
    intro i hi
    rw [List.drop_of_length_le (by omega)]
    refine ⟨-1, Ev.step (f := fun _ => some (-1)) (fun k => ?_) (ev_some rfl), by simp⟩
    rw [slices_Index_int_int.l0, if_neg (by omega)]
  | succ n ih =>
    intro i hi
    rw [drop_nat q i (by omega)]
    by_cases c : v = rd q (i : Int)
    · refine ⟨(i : Int), Ev.step (f := fun _ => some (i : Int)) (fun k => ?_) (ev_some rfl), by simp [c]⟩
      rw [slices_Index_int_int.l0, if_pos (by omega), if_pos (by omega), if_pos (by omega), if_pos c]
    · obtain ⟨r, h1, h2⟩ := ih (i + 1) (by omega)
      refine ⟨r, Ev.step (fun k => ?_) h1, ?_⟩
      · rw [slices_Index_int_int.l0, if_pos (by omega), if_pos (by omega), if_pos (by omega), if_neg c, w64_nat (by omega)]
      · rw [h2]
        simp [List.mem_cons, c]
theorem contains_ev (q : List Int) (v : Int) (hq : q.length ≤ 1048576) : Ev (fun k => slices_Contains_int_int.f k q v) (decide (v ∈ q)) := by
  obtain ⟨r, h1, h2⟩ := index_l q v hq q.length 0 (by omega)
  rw [List.drop_zero] at h2
  unfold slices_Contains_int_int.f slices_Index_int_int.f
  exact Ev.bind h1 (ev_some h2)
theorem equal_l (a b : List Int) (hl : a.length = b.length) (ha : a.length ≤ 1048576) : ∀ (n i : Nat), i + n = a.length → Ev (fun k => slices_Equal_int_int.l0 k a b (a.length : Int) i) (decide (a.drop i = b.drop i)) := by
  intro n
  induction n with
  | zero =>
    intro i hi
    rw [List.drop_of_length_le (by omega), List.drop_of_length_le (by omega)]
    refine Ev.step (f := fun _ => some true) (fun k => ?_) (ev_some (by simp))
    rw [slices_Equal_int_int.l0, if_neg (by omega)]
  | succ n ih =>
    intro i hi
    rw [drop_nat a i (by omega), drop_nat b i (by omega)]
    by_cases c : rd a (i : Int) = rd b (i : Int)
    · have e : decide (rd a (i : Int) :: a.drop (i + 1) = rd b (i : Int) :: b.drop (i + 1)) = decide (a.drop (i + 1) = b.drop (i + 1)) := by simp [c]
      rw [e]
      refine Ev.step (fun k => ?_) (ih (i + 1) (by omega))
      rw [slices_Equal_int_int.l0, if_pos (by omega), if_pos (by omega), if_pos (by omega), if_pos (by omega), if_pos c, w64_nat (by omega)]
    · refine Ev.step (f := fun _ => some false) (fun k => ?_) (ev_some (by simp [c]))
      rw [slices_Equal_int_int.l0, if_pos (by omega), if_pos (by omega), if_pos (by omega), if_pos (by omega), if_neg c]
theorem equal_ev (a b : List Int) (ha : a.length ≤ 1048576) : Ev (fun k => slices_Equal_int_int.f k a b) (decide (a = b)) := by
  unfold slices_Equal_int_int.f
  by_cases c : a.length = b.length
  · exact ev_pos (by omega) (equal_l a b c ha a.length 0 (by omega))
  · refine ev_neg (by omega) (ev_some (decide_eq_false (fun h => c (by rw [h]))).symm)

/-! ### one place -/
def bit (L : List (List Bool)) (y r : Nat) : Bool := (L.getD y []).getD r false
/-- Whether register r counts ahead of place a, by what counts now. -/
def on (l : List S63) (L : List (List Bool)) (a r : Nat) : Bool := decide ((r : Int) ∈ rdsL (l.getD a z63)) || ((nx l a).any (fun y => bit L y.toNat r) && !decide ((r : Int) ∈ setsL (l.getD a z63)))
def Wide (l : List S63) (L : List (List Bool)) : Prop := L.length = l.length ∧ ∀ y, y < L.length → (L.getD y []).length = 4
theorem rdOf_nat (q : List Bool) (r : Nat) : rdOf false q (r : Int) = q.getD r false := by unfold rdOf; rw [Int.toNat_natCast]
theorem rdL_nat (L : List (List Bool)) (y : Nat) : rd_L6 L (y : Int) = L.getD y [] := by unfold rd_L6; rw [Int.toNat_natCast]
theorem rdI_nat (L : List (List Int)) (y : Nat) : rd_L7 L (y : Int) = L.getD y [] := by unfold rd_L7; rw [Int.toNat_natCast]
theorem on_l (l : List S63) (L : List (List Bool)) (hw : Wide l L) (a r : Nat) (ha : a < l.length) (hr : r < 4) (came : Bool) (q : List Int) (hq : q.length ≤ 1048576) (hin : ∀ y ∈ q, 0 ≤ y ∧ y < (l.length : Int)) (res : Bool × List (List Bool)) : ∀ (n i : Nat) (b : Bool), i + n = q.length →
    Ev (fun k => spec_l18Round.l1 k l L (a : Int) came q (r : Int) (b || ((q.drop i).any (fun y => bit L y.toNat r) && !decide ((r : Int) ∈ setsL (l.getD a z63)))) (q.length : Int)) res → Ev (fun k => spec_l18Round.l1 k l L (a : Int) came q (r : Int) b i) res := by
  intro n
  induction n with
  | zero =>
    intro i b hi h
    rw [List.drop_of_length_le (by omega)] at h
    rw [show i = q.length by omega]
    simpa using h
  | succ n ih =>
    intro i b hi h
    have hw1 := hw.1
    rw [drop_nat q i (by omega), List.any_cons] at h
    have hy := hin (rd q (i : Int)) (by rw [rd_nat, List.getD_eq_getElem?_getD, List.getElem?_eq_getElem (by omega)]; exact List.getElem_mem (by omega))
    obtain ⟨y, hy0⟩ : ∃ y : Nat, rd q (i : Int) = (y : Int) := ⟨(rd q (i : Int)).toNat, by omega⟩
    rw [hy0] at h hy
    rw [Int.toNat_natCast] at h
    have h4 := hw.2 y (by omega)
    have hlen : (L.length : Int) = (l.length : Int) := by omega
    cases b with
    | true =>
      refine Ev.step (fun k => ?_) (ih (i + 1) true (by omega) (by simpa using h))
      rw [spec_l18Round.l1, if_pos (by omega), if_pos rfl, w64_nat (by omega)]
    | false =>
      have head : ∀ k, spec_l18Round.l1 (k + 1) l L (a : Int) came q (r : Int) false (i : Int) = if bit L y r = true then (spec_Sets.f k ((rd_T63 l (a : Int)).f0) ((rd_T63 l (a : Int)).f1) ((rd_T63 l (a : Int)).f2) ((rd_T63 l (a : Int)).f3) ((rd_T63 l (a : Int)).f4)).bind fun t => (spec_l18In.f k t (r : Int)).bind fun t2 => spec_l18Round.l1 k l L (a : Int) came q (r : Int) (!t2) ((i + 1 : Nat) : Int) else spec_l18Round.l1 k l L (a : Int) came q (r : Int) false ((i + 1 : Nat) : Int) := by
        intro k
        rw [spec_l18Round.l1, if_pos (by omega), if_neg (by decide), if_pos (by omega), hy0, if_pos (by omega), if_pos (by omega), if_pos (by omega), rdL_nat, if_pos (by rw [h4]; omega), rdOf_nat, w64_nat (by omega)]
        by_cases c : bit L y r = true
        · rw [if_pos c, if_pos (show (L.getD y []).getD r false = true from c), if_pos (by omega), if_pos (by omega)]
        · rw [if_neg c, if_neg (show ¬ (L.getD y []).getD r false = true from c)]
      by_cases c : bit L y r = true
      · refine Ev.step (fun k => by rw [head, if_pos c]) ?_
        rw [rdIns_nat]
        refine Ev.bind (spec_sets _) (Ev.bind (in_ev _ _ (by unfold setsL; repeat' split; all_goals simp)) ?_)
        refine ih (i + 1) _ (by omega) ?_
        rw [c] at h
        simp only [Bool.false_or, Bool.true_or, Bool.true_and] at h
        have e : (!decide ((r : Int) ∈ setsL (l.getD a z63)) || ((q.drop (i + 1)).any (fun y => bit L y.toNat r) && !decide ((r : Int) ∈ setsL (l.getD a z63)))) = !decide ((r : Int) ∈ setsL (l.getD a z63)) := by
          cases (!decide ((r : Int) ∈ setsL (l.getD a z63))) <;> simp
        rw [e]
        exact h
      · refine Ev.step (fun k => by rw [head, if_neg c]) (ih (i + 1) false (by omega) ?_)
        rw [Bool.not_eq_true] at c
        rw [c] at h
        simpa using h
theorem end_l (l : List S63) (L : List (List Bool)) (hw : Wide l L) (a r : Nat) (ha : a < l.length) (hr : r < 4) (came b : Bool) (q : List Int) (res : Bool × List (List Bool))
    (h : Ev (fun k => spec_l18Round.l0 k l (L.set a ((L.getD a []).set r (bit L a r || b))) (a : Int) (came || (b && !bit L a r)) q ((r + 1 : Nat) : Int)) res) : Ev (fun k => spec_l18Round.l1 k l L (a : Int) came q (r : Int) b (q.length : Int)) res := by
  have hw1 := hw.1
  have h4 := hw.2 a (by omega)
  refine Ev.step (fun k => ?_) h
  rw [spec_l18Round.l1, if_neg (by omega), rdL_nat, rdOf_nat, w64_nat (by omega), Int.toNat_natCast, Int.toNat_natCast]
  have e : (L.getD a []).getD r false = bit L a r := rfl
  rw [e]
  cases came <;> cases b <;> cases bit L a r <;> simp only [if_true, Bool.false_eq_true, if_false, Bool.or_true, Bool.or_false, Bool.not_true, Bool.not_false, Bool.and_true, Bool.and_false, Bool.true_or, Bool.false_or] <;> rw [if_pos (by omega), if_pos (by omega), if_pos (by omega), if_pos (by omega)]
theorem bit_set (L : List (List Bool)) (a : Nat) (row : List Bool) (r : Nat) (hs : row.getD r false = bit L a r) (y : Nat) : bit (L.set a row) y r = bit L y r := by
  unfold bit
  by_cases e : a = y
  · subst e
    by_cases h : a < L.length
    · rw [L_set_self _ _ _ _ h]
      exact hs
    · rw [List.set_eq_of_length_le (by omega)]
  · rw [L_set_ne _ _ _ _ _ e]
theorem on_set (l : List S63) (L : List (List Bool)) (a : Nat) (row : List Bool) (r : Nat) (hs : row.getD r false = bit L a r) (y : Nat) : on l (L.set a row) y r = on l L y r := by
  unfold on
  have e : (fun y : Int => bit (L.set a row) y.toNat r) = fun y : Int => bit L y.toNat r := funext fun y => bit_set L a row r hs y.toNat
  rw [e]
theorem wide_set (l : List S63) (L : List (List Bool)) (hw : Wide l L) (a : Nat) (row : List Bool) (h4 : row.length = 4) : Wide l (L.set a row) := by
  refine ⟨by rw [List.length_set]; exact hw.1, fun y hy => ?_⟩
  rw [List.length_set] at hy
  by_cases e : a = y
  · subst e
    rw [L_set_self _ _ _ _ hy]
    exact h4
  · rw [L_set_ne _ _ _ _ _ e]
    exact hw.2 y hy
theorem reg_step (l : List S63) (L : List (List Bool)) (hw : Wide l L) (hg : BodyGood l 3) (a r : Nat) (ha : a < l.length) (hr : r < 4) (came : Bool) (row : List Bool) (h4 : row.length = 4) (hs : row.getD r false = bit L a r) (res : Bool × List (List Bool))
    (h : Ev (fun k => spec_l18Round.l0 k l (L.set a (row.set r (bit L a r || on l L a r))) (a : Int) (came || (on l L a r && !bit L a r)) (nx l a) ((r + 1 : Nat) : Int)) res) : Ev (fun k => spec_l18Round.l0 k l (L.set a row) (a : Int) came (nx l a) (r : Int)) res := by
  have hw1 := hw.1
  have hw' := wide_set l L hw a row h4
  have hgl : (L.set a row).getD a [] = row := L_set_self _ _ _ _ (by omega)
  have hbit := bit_set L a row r hs a
  have hq := nx_len l (a : Int)
  refine Ev.step (fun k => by rw [spec_l18Round.l0, if_pos (by omega), if_pos (by omega), if_pos (by omega), rdIns_nat]) ?_
  refine Ev.bind (spec_reads _) (Ev.bind (in_ev _ _ (by unfold rdsL; repeat' split; all_goals simp)) ?_)
  refine on_l l (L.set a row) hw' a r ha hr came (nx l a) (by omega) (nx_in l 3 (a : Int) hg ⟨by omega, by omega⟩) res (nx l a).length 0 _ (by omega) ?_
  rw [List.drop_zero]
  have e : (decide ((r : Int) ∈ rdsL (l.getD a z63)) || ((nx l (a : Int)).any (fun y => bit (L.set a row) y.toNat r) && !decide ((r : Int) ∈ setsL (l.getD a z63)))) = on l (L.set a row) a r := rfl
  rw [e, on_set l L a row r hs a]
  refine end_l l (L.set a row) hw' a r ha hr came _ (nx l a) res ?_
  rw [hgl, hbit, List.set_set]
  exact h
def newRow (l : List S63) (L : List (List Bool)) (a : Nat) : List Bool := ((((L.getD a []).set 0 (bit L a 0 || on l L a 0)).set 1 (bit L a 1 || on l L a 1)).set 2 (bit L a 2 || on l L a 2)).set 3 (bit L a 3 || on l L a 3)
def cameRow (l : List S63) (L : List (List Bool)) (a : Nat) : Bool := (((false || (on l L a 0 && !bit L a 0)) || (on l L a 1 && !bit L a 1)) || (on l L a 2 && !bit L a 2)) || (on l L a 3 && !bit L a 3)
theorem set_same (L : List (List Bool)) (a : Nat) : L.set a (L.getD a []) = L := by
  apply List.ext_getElem?
  intro i
  by_cases e : a = i
  · subst e
    by_cases h : a < L.length
    · rw [List.getElem?_set_self h, List.getD_eq_getElem?_getD, List.getElem?_eq_getElem h]
      rfl
    · rw [List.set_eq_of_length_le (by omega)]
  · rw [List.getElem?_set_ne e]
theorem set_self_b (row : List Bool) (r : Nat) (hr : r < row.length) : row.set r (row.getD r false) = row := by
  apply List.ext_getElem?
  intro i
  by_cases e : r = i
  · subst e
    rw [List.getElem?_set_self hr, List.getD_eq_getElem?_getD, List.getElem?_eq_getElem hr]
    rfl
  · rw [List.getElem?_set_ne e]
theorem spec_round (l : List S63) (L : List (List Bool)) (hw : Wide l L) (hg : BodyGood l 3) (a : Nat) (ha : a < l.length) : Ev (fun k => spec_l18Round.f k l L (a : Int)) (cameRow l L a, L.set a (newRow l L a)) := by
  have hw1 := hw.1
  have h4 := hw.2 a (by omega)
  unfold spec_l18Round.f
  refine Ev.bind (spec_nx l (a : Int) hg ⟨by omega, by omega⟩) ?_
  have key : Ev (fun k => spec_l18Round.l0 k l (L.set a (L.getD a [])) (a : Int) false (nx l a) ((0 : Nat) : Int)) (cameRow l L a, L.set a (newRow l L a)) := by
    refine reg_step l L hw hg a 0 ha (by omega) false _ h4 rfl _ ?_
    refine reg_step l L hw hg a 1 ha (by omega) _ _ (by simp only [List.length_set]; exact h4) ?_ _ ?_
    · rw [L_set_ne _ _ _ _ _ (by omega)]; rfl
    refine reg_step l L hw hg a 2 ha (by omega) _ _ (by simp only [List.length_set]; exact h4) ?_ _ ?_
    · rw [L_set_ne _ _ _ _ _ (by omega), L_set_ne _ _ _ _ _ (by omega)]; rfl
    refine reg_step l L hw hg a 3 ha (by omega) _ _ (by simp only [List.length_set]; exact h4) ?_ _ ?_
    · rw [L_set_ne _ _ _ _ _ (by omega), L_set_ne _ _ _ _ _ (by omega), L_set_ne _ _ _ _ _ (by omega)]; rfl
    refine Ev.step (f := fun _ => some (cameRow l L a, L.set a (newRow l L a))) (fun k => ?_) (ev_some rfl)
    rw [spec_l18Round.l0, if_neg (by omega)]
    rfl
  rw [set_same] at key
  exact key

/-! ### the program's rows -/
def rowOf (b : List Bool) : List Int := wh b true 4
def ns (l : List S63) (a : Nat) (v : Int) : Bool := !decide (v ∈ setsL (l.getD a z63))
theorem rowOf_len (b : List Bool) : (rowOf b).length ≤ 4 := wh_len b true 4
theorem rowOf_get (L : List (List Bool)) (y : Nat) : (L.map rowOf).getD y [] = rowOf (L.getD y []) := by
  by_cases h : y < L.length
  · rw [L_getD_map rowOf L y [] [] h]
  · rw [List.getD_eq_getElem?_getD, List.getElem?_eq_none (by simpa using h), List.getD_eq_getElem?_getD, List.getElem?_eq_none (by omega)]
    rfl
theorem col_row (l : List S63) (I : List (List Int)) (c : Bool) (a i : Nat) (ha : a < l.length) (hl : l.length ≤ 1048576) (q row : List Int) (hrow : row.length ≤ 4) (res : List (List Int)) : ∀ (n j : Nat) (acc : List Int), j + n = row.length → acc.length + n ≤ 1000 →
    Ev (fun k => impl_LiveAt.l2 k l I c (a : Int) (acc ++ (row.drop j).filter (ns l a)) q (q.length : Int) (wrap64 ((i : Int) + 1))) res → Ev (fun k => impl_LiveAt.l3 k l I c (a : Int) acc q (q.length : Int) (i : Int) row (row.length : Int) j) res := by
  intro n
  induction n with
  | zero =>
    intro j acc hj hn h
    rw [List.drop_of_length_le (by omega)] at h
    refine Ev.step (fun k => ?_) (by simpa using h)
    rw [impl_LiveAt.l3, if_neg (by omega)]
  | succ n ih =>
    intro j acc hj hn h
    rw [drop_nat row j (by omega), List.filter_cons] at h
    have head : ∀ k, impl_LiveAt.l3 (k + 1) l I c (a : Int) acc q (q.length : Int) (i : Int) row (row.length : Int) (j : Int) = (impl_Sets.f k ((rd_T63 l (a : Int)).f0) ((rd_T63 l (a : Int)).f1) ((rd_T63 l (a : Int)).f2) ((rd_T63 l (a : Int)).f3) ((rd_T63 l (a : Int)).f4)).bind fun t => (slices_Contains_int_int.f k t (rd row (j : Int))).bind fun t2 => if t2 = true then impl_LiveAt.l3 k l I c (a : Int) acc q (q.length : Int) (i : Int) row (row.length : Int) ((j + 1 : Nat) : Int) else if acc.length < 17592186044416 then impl_LiveAt.l3 k l I c (a : Int) (acc ++ [rd row (j : Int)]) q (q.length : Int) (i : Int) row (row.length : Int) ((j + 1 : Nat) : Int) else none := by
      intro k
      rw [impl_LiveAt.l3, if_pos (by omega), if_pos (by omega), if_pos (by omega), if_pos (by omega), if_pos (by omega), w64_nat (by omega)]
    refine Ev.step head ?_
    rw [rdIns_nat]
    refine Ev.bind (impl_sets _) (Ev.bind (contains_ev _ _ (by unfold setsL; repeat' split; all_goals simp)) ?_)
    by_cases m : rd row (j : Int) ∈ setsL (l.getD a z63)
    · have e : ns l a (rd row (j : Int)) = false := by unfold ns; rw [decide_eq_true m]; rfl
      rw [e] at h
      refine ev_pos (decide_eq_true m) (ih (j + 1) acc (by omega) (by omega) (by simpa using h))
    · have e : ns l a (rd row (j : Int)) = true := by unfold ns; rw [decide_eq_false m]; rfl
      rw [e, if_pos rfl] at h
      refine ev_neg (by rw [decide_eq_false m]; decide) (ev_pos (by omega) (ih (j + 1) (acc ++ [rd row (j : Int)]) (by omega) (by simp; omega) ?_))
      simpa using h
theorem col_all (l : List S63) (L : List (List Bool)) (hw : Wide l L) (c : Bool) (a : Nat) (ha : a < l.length) (hl : l.length ≤ 1048576) (q : List Int) (hq : q.length ≤ 100) (hin : ∀ y ∈ q, 0 ≤ y ∧ y < (l.length : Int)) (res : List (List Int)) : ∀ (n i : Nat) (acc : List Int), i + n = q.length → acc.length + 4 * n ≤ 1000 →
    Ev (fun k => impl_LiveAt.l2 k l (L.map rowOf) c (a : Int) (acc ++ (q.drop i).flatMap (fun y => (rowOf (L.getD y.toNat [])).filter (ns l a))) q (q.length : Int) (q.length : Int)) res → Ev (fun k => impl_LiveAt.l2 k l (L.map rowOf) c (a : Int) acc q (q.length : Int) i) res := by
  intro n
  induction n with
  | zero =>
    intro i acc hi hn h
    rw [List.drop_of_length_le (by omega)] at h
    rw [show i = q.length by omega]
    simpa using h
  | succ n ih =>
    intro i acc hi hn h
    have hw1 := hw.1
    have hy := hin (rd q (i : Int)) (by rw [rd_nat, List.getD_eq_getElem?_getD, List.getElem?_eq_getElem (by omega)]; exact List.getElem_mem (by omega))
    rw [drop_nat q i (by omega), List.flatMap_cons] at h
    obtain ⟨y, hy0⟩ : ∃ y : Nat, rd q (i : Int) = (y : Int) := ⟨(rd q (i : Int)).toNat, by omega⟩
    rw [hy0] at h hy
    rw [Int.toNat_natCast] at h
    have hrl := rowOf_len (L.getD y [])
    have hfl : ((rowOf (L.getD y [])).filter (ns l a)).length ≤ 4 := Nat.le_trans (List.length_filter_le _ _) hrl
    refine Ev.step (fun k => by rw [impl_LiveAt.l2, if_pos (by omega), if_pos (by omega), if_pos (by omega), hy0, if_pos (by omega), if_pos (by rw [List.length_map]; omega), rdI_nat, rowOf_get]) ?_
    refine col_row l (L.map rowOf) c a i ha hl q (rowOf (L.getD y [])) hrl res (rowOf (L.getD y [])).length 0 acc (by omega) (by omega) ?_
    rw [List.drop_zero, w64_nat (by omega)]
    refine ih (i + 1) _ (by omega) (by rw [List.length_append]; omega) ?_
    rw [List.append_assoc]
    exact h
/-- All that counts ahead of place a, as the program gathers it. -/
def gath (l : List S63) (L : List (List Bool)) (a : Nat) : List Int := rdsL (l.getD a z63) ++ (nx l a).flatMap (fun y => (rowOf (L.getD y.toNat [])).filter (ns l a))
def Grow (l : List S63) (L : List (List Bool)) : Prop := ∀ a r, a < l.length → r < 4 → bit L a r = true → on l L a r = true
theorem gath_mem (l : List S63) (hg : BodyGood l 3) (L : List (List Bool)) (a : Nat) (ha : a < l.length) (v : Int) : v ∈ gath l L a ↔ ∃ r : Nat, v = (r : Int) ∧ r < 4 ∧ on l L a r = true := by
  have hi := hg.2.2.1 a ha
  unfold AtGood InsGood at hi
  have hR : ∀ v ∈ rdsL (l.getD a z63), 0 ≤ v ∧ v ≤ 3 := by
    intro v hv
    unfold rdsL at hv
    revert hv
    repeat' split
    all_goals
      intro hv
      simp only [List.mem_cons, List.mem_singleton, List.not_mem_nil, or_false] at hv <;> first | omega | (rcases hv with rfl | rfl <;> omega)
  unfold gath on
  rw [List.mem_append, List.mem_flatMap]
  constructor
  · rintro (h | ⟨y, hy, h⟩)
    · have := hR v h
      refine ⟨v.toNat, by omega, by omega, ?_⟩
      rw [show ((v.toNat : Nat) : Int) = v by omega, decide_eq_true h, Bool.true_or]
    · rw [List.mem_filter] at h
      obtain ⟨r, rfl, hr, hb⟩ := (wh_mem _ _ _ _).1 h.1
      refine ⟨r, rfl, hr, ?_⟩
      have h2 := h.2
      unfold ns at h2
      rw [h2, Bool.and_true, Bool.or_eq_true]
      exact .inr (List.any_eq_true.2 ⟨y, hy, hb⟩)
  · rintro ⟨r, rfl, hr, h⟩
    rw [Bool.or_eq_true, Bool.and_eq_true] at h
    rcases h with h | ⟨h1, h2⟩
    · exact .inl (of_decide_eq_true h)
    · obtain ⟨y, hy, hb⟩ := List.any_eq_true.1 h1
      refine .inr ⟨y, hy, ?_⟩
      rw [List.mem_filter]
      exact ⟨(wh_mem _ _ _ _).2 ⟨r, rfl, hr, hb⟩, h2⟩
theorem getD_at (row : List Bool) (r : Nat) (h : r < row.length) : row.getD r false = row[r] := by
  rw [List.getD_eq_getElem?_getD, List.getElem?_eq_getElem h]
  rfl
theorem newRow_len (l : List S63) (L : List (List Bool)) (a : Nat) (h4 : (L.getD a []).length = 4) : (newRow l L a).length = 4 := by
  unfold newRow
  simp only [List.length_set]
  exact h4
theorem newRow_get (l : List S63) (L : List (List Bool)) (a : Nat) (h4 : (L.getD a []).length = 4) (r : Nat) (hr : r < 4) : (newRow l L a).getD r false = (bit L a r || on l L a r) := by
  unfold newRow
  obtain rfl | rfl | rfl | rfl : r = 0 ∨ r = 1 ∨ r = 2 ∨ r = 3 := by omega
  · rw [L_set_ne _ _ _ _ _ (by omega), L_set_ne _ _ _ _ _ (by omega), L_set_ne _ _ _ _ _ (by omega), L_set_self _ _ _ _ (by omega)]
  · rw [L_set_ne _ _ _ _ _ (by omega), L_set_ne _ _ _ _ _ (by omega), L_set_self _ _ _ _ (by simp only [List.length_set]; omega)]
  · rw [L_set_ne _ _ _ _ _ (by omega), L_set_self _ _ _ _ (by simp only [List.length_set]; omega)]
  · rw [L_set_self _ _ _ _ (by simp only [List.length_set]; omega)]
theorem gath_row (l : List S63) (hg : BodyGood l 3) (L : List (List Bool)) (hw : Wide l L) (hm : Grow l L) (a : Nat) (ha : a < l.length) : Go.Lib.compact (sorted (gath l L a)) = rowOf (newRow l L a) := by
  have h4 := hw.2 a (by rw [hw.1]; exact ha)
  obtain ⟨h1, h2⟩ := comp_sorted (gath l L a)
  refine inc_ext _ _ h1 (wh_inc _ _ _) (fun v => ?_)
  rw [h2, gath_mem l hg L a ha]
  unfold rowOf
  rw [wh_mem]
  constructor
  · rintro ⟨r, rfl, hr, h⟩
    exact ⟨r, rfl, hr, by rw [newRow_get l L a h4 r hr, h, Bool.or_true]⟩
  · rintro ⟨r, rfl, hr, h⟩
    rw [newRow_get l L a h4 r hr, Bool.or_eq_true] at h
    exact ⟨r, rfl, hr, h.elim (fun h => hm a r ha hr h) id⟩
theorem came_row (l : List S63) (L : List (List Bool)) (hw : Wide l L) (a : Nat) (ha : a < l.length) : (cameRow l L a = false → newRow l L a = L.getD a []) ∧ (cameRow l L a = true → rowOf (newRow l L a) ≠ rowOf (L.getD a [])) := by
  have h4 := hw.2 a (by rw [hw.1]; exact ha)
  constructor
  · intro h
    unfold cameRow at h
    simp only [Bool.or_eq_false_iff, Bool.false_or] at h
    have hr : ∀ r, r < 4 → (bit L a r || on l L a r) = bit L a r := by
      intro r hr
      have : (on l L a r && !bit L a r) = false := by
        obtain rfl | rfl | rfl | rfl : r = 0 ∨ r = 1 ∨ r = 2 ∨ r = 3 := by omega
        · exact h.1.1.1
        · exact h.1.1.2
        · exact h.1.2
        · exact h.2
      revert this
      cases on l L a r <;> cases bit L a r <;> simp
    apply List.ext_getElem
    · rw [newRow_len l L a h4, h4]
    · intro r h1 h2
      rw [newRow_len l L a h4] at h1
      have e := newRow_get l L a h4 r h1
      rw [hr r h1, getD_at _ r (by rw [newRow_len l L a h4]; exact h1)] at e
      unfold bit at e
      rw [getD_at _ r h2] at e
      exact e
  · intro h e
    have : ∃ r, r < 4 ∧ on l L a r = true ∧ bit L a r = false := by
      unfold cameRow at h
      simp only [Bool.or_eq_true, Bool.and_eq_true, Bool.not_eq_true', Bool.false_or] at h
      rcases h with ((h | h) | h) | h
      · exact ⟨0, by omega, h⟩
      · exact ⟨1, by omega, h⟩
      · exact ⟨2, by omega, h⟩
      · exact ⟨3, by omega, h⟩
    obtain ⟨r, hr, h1, h2⟩ := this
    have m : (r : Int) ∈ rowOf (newRow l L a) := (wh_mem _ _ _ _).2 ⟨r, rfl, hr, by rw [newRow_get l L a h4 r hr, h1, Bool.or_true]⟩
    rw [e] at m
    obtain ⟨j, hj, _, hb⟩ := (wh_mem _ _ _ _).1 m
    obtain rfl : r = j := by omega
    unfold bit at h2
    rw [hb] at h2
    cases h2
theorem impl_round (l : List S63) (hg : BodyGood l 3) (L : List (List Bool)) (hw : Wide l L) (hm : Grow l L) (c : Bool) (a : Nat) (ha : a < l.length) (res : List (List Int)) (h : Ev (fun k => impl_LiveAt.l1 k l ((L.set a (newRow l L a)).map rowOf) (c || cameRow l L a) ((a : Int) - 1)) res) : Ev (fun k => impl_LiveAt.l1 k l (L.map rowOf) c (a : Int)) res := by
  have hl := hg.2.1
  have hw1 := hw.1
  have hq := nx_len l (a : Int)
  have hr3 : (rdsL (l.getD a z63)).length ≤ 2 := by unfold rdsL; repeat' split; all_goals simp
  refine Ev.step (fun k => by rw [impl_LiveAt.l1, if_pos (by omega), if_pos (by omega), if_pos (by omega), rdIns_nat]) ?_
  refine Ev.bind (impl_reads _) (ev_bind0 (x := rdsL (l.getD a z63)) ?_ (ev_bind0 (impl_nx l (a : Int) ⟨by omega, by omega⟩) ?_))
  · unfold impl_copyInts.f
    simp only [Option.bind_some, List.length_nil, List.nil_append]
    rw [if_pos (by omega)]
  refine col_all l L hw c a ha (by omega) (nx l a) (by omega) (nx_in l 3 (a : Int) hg ⟨by omega, by omega⟩) res (nx l a).length 0 _ (by omega) (by omega) ?_
  rw [List.drop_zero]
  have hgl : (gath l L a).length ≤ 100 := by
    unfold gath
    rw [List.length_append, List.length_flatMap]
    have : ((nx l (a : Int)).map fun y => ((rowOf (L.getD y.toNat [])).filter (ns l a)).length).sum ≤ 4 * (nx l (a : Int)).length := by
      generalize nx l (a : Int) = q
      induction q with
      | nil => simp
      | cons y q ih =>
        have h1 := rowOf_len (L.getD y.toNat [])
        have h2 := List.length_filter_le (ns l a) (rowOf (L.getD y.toNat []))
        simp only [List.map_cons, List.sum_cons, List.length_cons]
        omega
    omega
  have hsl : (sorted (gath l L a)).length = (gath l L a).length := List.length_mergeSort _
  have hcr := came_row l L hw a ha
  have hrl := rowOf_len (newRow l L a)
  refine Ev.step (fun k => by rw [impl_LiveAt.l2, if_neg (by omega)]) ?_
  refine ev_bind0 (x := sorted (gath l L a)) (if_pos (by show (gath l L a).length ≤ 1000000; omega)) (ev_bind0 (x := rowOf (newRow l L a)) ?_ (ev_pos (by omega) (ev_pos (by rw [List.length_map]; omega) ?_)))
  · unfold slices_Compact_int_int.f
    rw [if_pos (by omega), gath_row l hg L hw hm a ha]
  rw [rdI_nat, rowOf_get]
  refine Ev.bind (equal_ev _ _ (by omega)) ?_
  have hwr : wrap64 ((a : Int) - 1) = (a : Int) - 1 := w64 (by omega) (by omega)
  cases hc : cameRow l L a with
  | false =>
    rw [hcr.1 hc] at h ⊢
    rw [set_same, hc, Bool.or_false] at h
    rw [hwr]
    exact ev_pos (by simp) h
  | true =>
    have hne := hcr.2 hc
    rw [hc, Bool.or_true, List.map_set] at h
    rw [hwr]
    refine ev_neg (by rw [decide_eq_false hne]; decide) ?_
    rw [Int.toNat_natCast]
    exact h
/-! ### rounds -/
theorem bit_new (l : List S63) (L : List (List Bool)) (hw : Wide l L) (a : Nat) (ha : a < l.length) (y r : Nat) (hr : r < 4) : bit (L.set a (newRow l L a)) y r = (bit L y r || (decide (y = a) && on l L a r)) := by
  have hw1 := hw.1
  have h4 := hw.2 a (by omega)
  unfold bit
  by_cases e : a = y
  · subst e
    rw [L_set_self _ _ _ _ (by omega), newRow_get l L a h4 r hr]
    simp [bit]
  · rw [L_set_ne _ _ _ _ _ e]
    have : ¬ y = a := fun h => e h.symm
    simp [this]
theorem on_new (l : List S63) (L : List (List Bool)) (hw : Wide l L) (a : Nat) (ha : a < l.length) (y r : Nat) (hr : r < 4) (h : on l L y r = true) : on l (L.set a (newRow l L a)) y r = true := by
  unfold on at h ⊢
  rw [Bool.or_eq_true] at h ⊢
  rcases h with h | h
  · exact .inl h
  · rw [Bool.and_eq_true] at h ⊢
    obtain ⟨z, hz, hb⟩ := List.any_eq_true.1 h.1
    refine .inr ⟨List.any_eq_true.2 ⟨z, hz, ?_⟩, h.2⟩
    rw [bit_new l L hw a ha _ r hr, hb, Bool.true_or]
theorem grow_new (l : List S63) (L : List (List Bool)) (hw : Wide l L) (hm : Grow l L) (a : Nat) (ha : a < l.length) : Grow l (L.set a (newRow l L a)) := by
  intro y r hy hr hb
  rw [bit_new l L hw a ha y r hr, Bool.or_eq_true] at hb
  rcases hb with hb | hb
  · exact on_new l L hw a ha y r hr (hm y r hy hr hb)
  · rw [Bool.and_eq_true] at hb
    obtain rfl := of_decide_eq_true hb.1
    exact on_new l L hw y ha y r hr hb.2
def fls (L : List (List Bool)) : Nat := (L.map unseen).sum
theorem fls_set (L : List (List Bool)) : ∀ (a : Nat) (row : List Bool), a < L.length → fls (L.set a row) + unseen (L.getD a []) = fls L + unseen row := by
  induction L with
  | nil => intro a row h; simp at h
  | cons x L ih =>
    intro a row h
    cases a with
    | zero => simp [fls]; omega
    | succ a =>
      have := ih a row (by simpa using h)
      simp only [fls, List.set_cons_succ, List.map_cons, List.sum_cons, List.getD_cons_succ] at this ⊢
      omega
theorem unseen_or (row : List Bool) (r : Nat) (hr : r < row.length) (o : Bool) : unseen (row.set r (row.getD r false || o)) + (if (o && !row.getD r false) = true then 1 else 0) = unseen row := by
  cases hb : row.getD r false with
  | true =>
    have e : row.set r true = row := by
      have := set_self_b row r hr
      rw [hb] at this
      exact this
    simp [e]
  | false =>
    cases o with
    | true =>
      have := unseen_set row r hr hb
      simp
      exact this
    | false =>
      have e : row.set r false = row := by
        have := set_self_b row r hr
        rw [hb] at this
        exact this
      simp [e]
theorem unseen_new (l : List S63) (L : List (List Bool)) (a : Nat) (h4 : (L.getD a []).length = 4) : unseen (newRow l L a) ≤ unseen (L.getD a []) ∧ (cameRow l L a = true → unseen (newRow l L a) < unseen (L.getD a [])) := by
  have s0 := unseen_or (L.getD a []) 0 (by omega) (on l L a 0)
  have s1 := unseen_or ((L.getD a []).set 0 (bit L a 0 || on l L a 0)) 1 (by simp only [List.length_set]; omega) (on l L a 1)
  rw [L_set_ne _ _ _ _ _ (by omega)] at s1
  have s2 := unseen_or (((L.getD a []).set 0 (bit L a 0 || on l L a 0)).set 1 (bit L a 1 || on l L a 1)) 2 (by simp only [List.length_set]; omega) (on l L a 2)
  rw [L_set_ne _ _ _ _ _ (by omega), L_set_ne _ _ _ _ _ (by omega)] at s2
  have s3 := unseen_or ((((L.getD a []).set 0 (bit L a 0 || on l L a 0)).set 1 (bit L a 1 || on l L a 1)).set 2 (bit L a 2 || on l L a 2)) 3 (by simp only [List.length_set]; omega) (on l L a 3)
  rw [L_set_ne _ _ _ _ _ (by omega), L_set_ne _ _ _ _ _ (by omega), L_set_ne _ _ _ _ _ (by omega)] at s3
  unfold newRow cameRow
  change unseen ((L.getD a []).set 0 (bit L a 0 || on l L a 0)) + (if (on l L a 0 && !bit L a 0) = true then 1 else 0) = _ at s0
  change unseen (((L.getD a []).set 0 (bit L a 0 || on l L a 0)).set 1 (bit L a 1 || on l L a 1)) + (if (on l L a 1 && !bit L a 1) = true then 1 else 0) = _ at s1
  change unseen ((((L.getD a []).set 0 (bit L a 0 || on l L a 0)).set 1 (bit L a 1 || on l L a 1)).set 2 (bit L a 2 || on l L a 2)) + (if (on l L a 2 && !bit L a 2) = true then 1 else 0) = _ at s2
  change unseen (((((L.getD a []).set 0 (bit L a 0 || on l L a 0)).set 1 (bit L a 1 || on l L a 1)).set 2 (bit L a 2 || on l L a 2)).set 3 (bit L a 3 || on l L a 3)) + (if (on l L a 3 && !bit L a 3) = true then 1 else 0) = _ at s3
  refine ⟨by omega, fun h => ?_⟩
  simp only [Bool.or_eq_true, Bool.false_or] at h
  rcases h with ((h | h) | h) | h
  · rw [if_pos h] at s0; omega
  · rw [if_pos h] at s1; omega
  · rw [if_pos h] at s2; omega
  · rw [if_pos h] at s3; omega
/-- One sweep, from the last place down. -/
theorem sweep (l : List S63) (hg : BodyGood l 3) (out : List (List Int)) : ∀ (n : Nat) (L : List (List Bool)) (c : Bool), n ≤ l.length → Wide l L → Grow l L → ∃ (L' : List (List Bool)) (c' : Bool), Wide l L' ∧ Grow l L' ∧ fls L' ≤ fls L ∧ (c' = true → c = true ∨ fls L' < fls L) ∧
    (∀ res, Ev (fun k => spec_LiveAt.l1 k l out L' c') res → Ev (fun k => spec_LiveAt.l2 k l out L c ((n : Int) - 1)) res) ∧ (∀ res, Ev (fun k => impl_LiveAt.l0 k l (L'.map rowOf) c') res → Ev (fun k => impl_LiveAt.l1 k l (L.map rowOf) c ((n : Int) - 1)) res) := by
  intro n
  induction n with
  | zero =>
    intro L c hn hw hm
    refine ⟨L, c, hw, hm, Nat.le_refl _, fun h => .inl h, fun res h => ?_, fun res h => ?_⟩
    · exact Ev.step (fun k => by rw [spec_LiveAt.l2, if_neg (by omega)]) h
    · exact Ev.step (fun k => by rw [impl_LiveAt.l1, if_neg (by omega)]) h
  | succ n ih =>
    intro L c hn hw hm
    have hw1 := hw.1
    have h4 := hw.2 n (by omega)
    obtain ⟨u1, u2⟩ := unseen_new l L n h4
    have hf := fls_set L n (newRow l L n) (by omega)
    have hl := hg.2.1
    obtain ⟨L', c', a1, a2, a3, a4, a5, a6⟩ := ih (L.set n (newRow l L n)) (c || cameRow l L n) (by omega) (wide_set l L hw n _ (newRow_len l L n h4)) (grow_new l L hw hm n (by omega))
    have e : (((n + 1 : Nat) : Int) - 1) = (n : Int) := by omega
    have hwr : wrap64 ((n : Int) - 1) = (n : Int) - 1 := w64 (by omega) (by omega)
    refine ⟨L', c', a1, a2, by omega, fun h => ?_, fun res h => ?_, fun res h => ?_⟩
    · rcases a4 h with h | h
      · rw [Bool.or_eq_true] at h
        rcases h with h | h
        · exact .inl h
        · have := u2 h
          exact .inr (by omega)
      · exact .inr (by omega)
    · rw [e]
      refine Ev.step (fun k => by rw [spec_LiveAt.l2, if_pos (by omega)]) ?_
      refine Ev.bind (spec_round l L hw hg n (by omega)) ?_
      have h' := a5 res h
      rw [hwr]
      cases hc : cameRow l L n with
      | true =>
        rw [hc, Bool.or_true] at h'
        exact ev_pos rfl h'
      | false =>
        rw [hc, Bool.or_false] at h'
        exact ev_neg (by simp) h'
    · rw [e]
      exact impl_round l hg L hw hm c n (by omega) res (a6 res h)
theorem rounds (l : List S63) (hg : BodyGood l 3) (out : List (List Int)) : ∀ (m : Nat) (L : List (List Bool)), fls L ≤ m → Wide l L → Grow l L → ∃ L' : List (List Bool), Wide l L' ∧
    (∀ res, Ev (fun k => spec_LiveAt.l3 k l out L' 0) res → Ev (fun k => spec_LiveAt.l1 k l out L true) res) ∧ Ev (fun k => impl_LiveAt.l0 k l (L.map rowOf) true) (L'.map rowOf) := by
  intro m
  induction m with
  | zero =>
    intro L hf hw hm
    have hl := hg.2.1
    have hwr : wrap64 ((l.length : Int) - 1) = (l.length : Int) - 1 := w64 (by omega) (by omega)
    obtain ⟨L', c', a1, a2, a3, a4, a5, a6⟩ := sweep l hg out l.length L false (Nat.le_refl _) hw hm
    have hc : c' = false := by
      cases h : c' with
      | false => rfl
      | true => rcases a4 h with h | h <;> first | cases h | omega
    subst hc
    refine ⟨L', a1, fun res h => ?_, ?_⟩
    · refine Ev.step (fun k => by rw [spec_LiveAt.l1, if_pos rfl, hwr]) (a5 res ?_)
      exact Ev.step (fun k => by rw [spec_LiveAt.l1, if_neg (by decide)]) h
    · refine Ev.step (fun k => by rw [impl_LiveAt.l0, if_pos rfl, hwr]) (a6 _ ?_)
      exact Ev.step (f := fun _ => some (L'.map rowOf)) (fun k => by rw [impl_LiveAt.l0, if_neg (by decide)]) (ev_some rfl)
  | succ m ih =>
    intro L hf hw hm
    have hl := hg.2.1
    have hwr : wrap64 ((l.length : Int) - 1) = (l.length : Int) - 1 := w64 (by omega) (by omega)
    obtain ⟨L', c', a1, a2, a3, a4, a5, a6⟩ := sweep l hg out l.length L false (Nat.le_refl _) hw hm
    cases c' with
    | false =>
      refine ⟨L', a1, fun res h => ?_, ?_⟩
      · refine Ev.step (fun k => by rw [spec_LiveAt.l1, if_pos rfl, hwr]) (a5 res ?_)
        exact Ev.step (fun k => by rw [spec_LiveAt.l1, if_neg (by decide)]) h
      · refine Ev.step (fun k => by rw [impl_LiveAt.l0, if_pos rfl, hwr]) (a6 _ ?_)
        exact Ev.step (f := fun _ => some (L'.map rowOf)) (fun k => by rw [impl_LiveAt.l0, if_neg (by decide)]) (ev_some rfl)
    | true =>
      have hlt : fls L' < fls L := by rcases a4 rfl with h | h <;> first | cases h | exact h
      obtain ⟨M, b1, b2, b3⟩ := ih L' (by omega) a1 a2
      refine ⟨M, b1, fun res h => ?_, ?_⟩
      · exact Ev.step (fun k => by rw [spec_LiveAt.l1, if_pos rfl, hwr]) (a5 res (b2 res h))
      · exact Ev.step (fun k => by rw [impl_LiveAt.l0, if_pos rfl, hwr]) (a6 _ b3)
/-! ### LiveAt -/
theorem outs_l (l : List S63) (hl : l.length ≤ 1048576) (L : List (List Bool)) (hw : Wide l L) : ∀ (n i : Nat), i + n = l.length → Ev (fun k => spec_LiveAt.l3 k l ((L.map rowOf).take i) L i) (L.map rowOf) := by
  intro n
  induction n with
  | zero =>
    intro i hi
    have hw1 := hw.1
    refine Ev.step (f := fun _ => some (L.map rowOf)) (fun k => ?_) (ev_some rfl)
    rw [spec_LiveAt.l3, if_neg (by omega), List.take_of_length_le (by rw [List.length_map]; omega)]
  | succ n ih =>
    intro i hi
    have hw1 := hw.1
    have h4 := hw.2 i (by omega)
    refine Ev.step (fun k => by rw [spec_LiveAt.l3, if_pos (by omega), if_pos (by omega), if_pos (by omega), rdL_nat]) ?_
    refine Ev.bind (a := rowOf (L.getD i [])) (by have := places_ev (L.getD i []) true (by omega); rw [h4] at this; exact this) (ev_pos (by rw [List.length_take, List.length_map]; omega) ?_)
    rw [w64_nat (by omega), ← rowOf_get, ← L_take_getD (L.map rowOf) i [] (by rw [List.length_map]; omega)]
    exact ih (i + 1) (by omega)
theorem makes_l (l : List S63) (hl : l.length ≤ 1048576) (res : List (List Int)) (h : Ev (fun k => spec_LiveAt.l1 k l [] (List.replicate l.length (List.replicate 4 false)) true) res) : ∀ (n i : Nat), i + n = l.length → Ev (fun k => spec_LiveAt.l0 k l [] (List.replicate i (List.replicate 4 false)) i) res := by
  intro n
  induction n with
  | zero =>
    intro i hi
    obtain rfl : i = l.length := by omega
    exact Ev.step (fun k => by rw [spec_LiveAt.l0, if_neg (by omega)]) h
  | succ n ih =>
    intro i hi
    refine Ev.step (fun k => ?_) (ih (i + 1) (by omega))
    rw [spec_LiveAt.l0, if_pos (by omega), if_pos (by omega), if_pos (by rw [List.length_replicate]; omega), w64_nat (by omega), ← List.replicate_succ']
/-- The program's LiveAt is the reference's: a row for each place of a right body, none else. -/
theorem live_both (l : List S63) (hl : l.length ≤ 1048576) : ∃ q : List (List Int), Ev (fun k => spec_LiveAt.f k l) q ∧ Ev (fun k => impl_LiveAt.f k l) q ∧ (∀ y ∈ q, y.length ≤ 4) ∧ ((BodyGood l 3 ∧ q.length = l.length) ∨ (¬ BodyGood l 3 ∧ q = [])) := by
  obtain ⟨b, h1, h2, h3⟩ := body_both l 3 hl
  cases b with
  | false =>
    have hn : ¬ BodyGood l 3 := fun h => by cases h3.2 h
    refine ⟨[], ?_, ?_, fun y hy => (by cases hy), .inr ⟨hn, rfl⟩⟩
    · unfold spec_LiveAt.f
      exact ev_bind0 rfl (Ev.bind h1 (ev_neg (by decide) (ev_some rfl)))
    · unfold impl_LiveAt.f
      exact Ev.bind h2 (ev_neg (by decide) (ev_some rfl))
  | true =>
    have hg := h3.1 rfl
    have hw0 : Wide l (List.replicate l.length (List.replicate 4 false)) := ⟨List.length_replicate, fun y hy => by
      rw [List.length_replicate] at hy
      rw [List.getD_eq_getElem?_getD, List.getElem?_replicate, if_pos hy]
      rfl⟩
    have hm0 : Grow l (List.replicate l.length (List.replicate 4 false)) := by
      intro a r ha hr hb
      have e : (List.replicate l.length (List.replicate 4 false)).getD a [] = List.replicate 4 false := by
        rw [List.getD_eq_getElem?_getD, List.getElem?_replicate, if_pos ha]
        rfl
      unfold bit at hb
      rw [e] at hb
      obtain rfl | rfl | rfl | rfl : r = 0 ∨ r = 1 ∨ r = 2 ∨ r = 3 := by omega
      all_goals exact absurd hb (by decide)
    obtain ⟨L', b1, b2, b3⟩ := rounds l hg [] _ (List.replicate l.length (List.replicate 4 false)) (Nat.le_refl _) hw0 hm0
    refine ⟨L'.map rowOf, ?_, ?_, fun y hy => ?_, .inl ⟨hg, by rw [List.length_map]; exact b1.1⟩⟩
    · unfold spec_LiveAt.f
      refine ev_bind0 rfl (Ev.bind h1 (ev_pos rfl ?_))
      refine makes_l l hl _ (b2 _ ?_) l.length 0 (by omega)
      exact outs_l l hl L' b1 l.length 0 (by omega)
    · unfold impl_LiveAt.f
      refine Ev.bind h2 (ev_pos rfl (ev_pos (by omega) (ev_pos (by omega) ?_)))
      rw [Int.toNat_natCast]
      have e : (List.replicate l.length (List.replicate 4 false)).map rowOf = List.replicate l.length [] := by
        rw [List.map_replicate]
        rfl
      rw [e] at b3
      exact b3
    · obtain ⟨z, _, rfl⟩ := List.mem_map.1 hy
      exact rowOf_len z
end Go.Proofs.Ytocimkpafakiaaa.CoreLiveFnExactTrimProg

namespace Go.Proofs.Ytocimkpafakiaaa.CoreDeadFnExactTrimProg
open Go.RowKit Go.Proofs.Ytocimkpafakiaaa.XFnExactTrimProg Go.Proofs.Ytocimkpafakiaaa.Lib Go.Proofs.Ytocimkpafakiaaa.CoreInsFnExactTrimProg Go.Proofs.Ytocimkpafakiaaa.CoreBodyFnExactTrimProg Go.Proofs.Ytocimkpafakiaaa.CoreFlowFnExactTrimProg Go.Proofs.Ytocimkpafakiaaa.CoreLiveFnExactTrimProg Go.Proofs.YtocimkpafakiaaaW.PrintWords Go.Proofs.YtocimkpafakiaaaW.PrintLast Go.Proofs.YtocimkpafakiaaaW.PrintMore
set_option linter.unusedVariables false
set_option linter.unusedSimpArgs false

/-- Whether place i is dead. -/
def dies (l : List S63) (q : List (List Int)) (r : List Bool) (i : Nat) : Bool := decide (1 ≤ (l.getD i z63).f0 ∧ (l.getD i z63).f0 ≤ 4) && (r.getD i false && !decide ((l.getD i z63).f1 ∈ q.getD (i + 1) []))
theorem three_eq (a : Int) : spec_l19Three.f a = some (decide (2 ≤ a ∧ a ≤ 4)) := by
  unfold spec_l19Three.f
  by_cases h2 : a = 2
  · subst h2; rfl
  rw [if_neg h2]
  by_cases h3 : a = 3
  · subst h3; rfl
  rw [if_neg h3]
  by_cases h4 : a = 4
  · subst h4; rfl
  · rw [show (a == 4) = false from beq_eq_false_iff_ne.mpr h4, decide_eq_false (by omega)]
def Keeps (l : List S63) (acc : List Int) (i : Nat) : Prop := acc.length ≤ i ∧ ∀ y ∈ acc, 0 ≤ y ∧ y < (l.length : Int)
theorem keeps_snoc (l : List S63) (acc : List Int) (i : Nat) (h : Keeps l acc i) (hi : i < l.length) : Keeps l (acc ++ [(i : Int)]) (i + 1) := by
  refine ⟨by rw [List.length_append]; simp; exact h.1, fun y hy => ?_⟩
  rw [List.mem_append, List.mem_singleton] at hy
  rcases hy with hy | hy
  · exact h.2 y hy
  · omega
theorem dead_l (l : List S63) (hl : l.length ≤ 1048576) (q : List (List Int)) (hq : q.length = l.length) (hq4 : ∀ y ∈ q, y.length ≤ 4) (r : List Bool) (hr : r.length = l.length) : ∀ (n i : Nat) (acc : List Int), i + n + 1 = l.length → Keeps l acc i → ∃ d : List Int, Keeps l d l.length ∧ Ev (fun k => spec_DeadAt.l0 k l acc q r i) d ∧ Ev (fun k => impl_DeadAt.l0 k l acc q r l (l.length : Int) i) d := by
  intro n
  induction n with
  | zero =>
    intro i acc hi hk
    refine ⟨acc, ⟨by have := hk.1; omega, hk.2⟩, Ev.step (f := fun _ => some acc) (fun k => ?_) (ev_some rfl), ?_⟩
    · rw [spec_DeadAt.l0, w64_nat (by omega), if_neg (by omega)]
    · have last : Ev (fun k => impl_DeadAt.l0 k l acc q r l (l.length : Int) ((i + 1 : Nat) : Int)) acc := Ev.step (f := fun _ => some acc) (fun k => by rw [impl_DeadAt.l0, if_neg (by omega)]) (ev_some rfl)
      refine Ev.step (fun k => by rw [impl_DeadAt.l0, if_pos (by omega), if_pos (by omega), if_pos (by omega), within_eq, w64_nat (by omega)]) ?_
      refine ev_bind0 rfl (ev_ite (fun _ => ev_pos (by omega) (ev_ite (fun _ => ev_neg (by omega) last) (fun _ => last))) (fun _ => last))
  | succ n ih =>
    intro i acc hi hk
    have e1 : q.getD (i + 1) [] ∈ q := by
      rw [List.getD_eq_getElem?_getD, List.getElem?_eq_getElem (by omega)]
      exact List.getElem_mem (by omega)
    have h4 := hq4 _ e1
    have hin : decide ((l.getD i z63).f1 ∈ q.getD (i + 1) []) = decide ((l.getD i z63).f1 ∈ q.getD (i + 1) []) := rfl
    have hrd : rdOf false r (i : Int) = r.getD i false := by unfold rdOf; rw [Int.toNat_natCast]
    have hk1 : Keeps l acc (i + 1) := ⟨by have := hk.1; omega, hk.2⟩
    have hka := hk.1
    by_cases c : dies l q r i = true
    · obtain ⟨d, d1, d2, d3⟩ := ih (i + 1) (acc ++ [(i : Int)]) (by omega) (keeps_snoc l acc i hk (by omega))
      unfold dies at c
      rw [Bool.and_eq_true, Bool.and_eq_true] at c
      obtain ⟨c1, c2, c3⟩ := c
      have c1' := of_decide_eq_true c1
      have c3' : ¬ (l.getD i z63).f1 ∈ q.getD (i + 1) [] := by
        intro hm
        rw [decide_eq_true hm] at c3
        cases c3
      refine ⟨d, d1, Ev.step (fun k => by rw [spec_DeadAt.l0, w64_nat (by omega), if_pos (by omega), if_pos (by omega), if_pos (by omega), if_pos (by omega), hrd, if_pos c2, rdIns_nat, rdI_nat]) ?_, Ev.step (fun k => by rw [impl_DeadAt.l0, if_pos (by omega), if_pos (by omega), if_pos (by omega), within_eq, w64_nat (by omega), rdIns_nat, rdI_nat, hrd]) ?_⟩
      · refine ev_ite (fun _ => ev_pos (by omega) (ev_pos (by omega) ?_)) (fun h1 => ?_)
        · exact Ev.bind (in_ev _ _ (by omega)) (ev_neg (by rw [decide_eq_false c3']; decide) (ev_pos (by omega) d2))
        · refine ev_bind0 (three_eq _) (ev_pos (decide_eq_true (by omega)) (ev_pos (by omega) (ev_pos (by omega) ?_)))
          exact Ev.bind (in_ev _ _ (by omega)) (ev_neg (by rw [decide_eq_false c3']; decide) (ev_pos (by omega) d2))
      · refine ev_bind0 rfl (ev_pos c1 (ev_pos (by omega) (ev_pos c2 (ev_pos (by omega) (ev_pos (by omega) (ev_pos (by omega) ?_))))))
        exact Ev.bind (contains_ev _ _ (by omega)) (ev_neg (by rw [decide_eq_false c3']; decide) (ev_pos (by omega) d3))
    · obtain ⟨d, d1, d2, d3⟩ := ih (i + 1) acc (by omega) hk1
      refine ⟨d, d1, Ev.step (fun k => by rw [spec_DeadAt.l0, w64_nat (by omega), if_pos (by omega), if_pos (by omega), if_pos (by omega), if_pos (by omega), hrd, rdIns_nat, rdI_nat]) ?_, Ev.step (fun k => by rw [impl_DeadAt.l0, if_pos (by omega), if_pos (by omega), if_pos (by omega), within_eq, w64_nat (by omega), rdIns_nat, rdI_nat, hrd]) ?_⟩
      · refine ev_ite (fun c2 => ?_) (fun _ => d2)
        have hm : (1 ≤ (l.getD i z63).f0 ∧ (l.getD i z63).f0 ≤ 4) → (l.getD i z63).f1 ∈ q.getD (i + 1) [] := by
          intro h1
          refine Classical.byContradiction fun h => c ?_
          unfold dies
          rw [decide_eq_true h1, c2, decide_eq_false h]
          rfl
        refine ev_ite (fun h1 => ev_pos (by omega) (ev_pos (by omega) ?_)) (fun h1 => ?_)
        · exact Ev.bind (in_ev _ _ (by omega)) (ev_pos (decide_eq_true (hm (by omega))) d2)
        · refine ev_bind0 (three_eq _) (ev_ite (fun h2 => ?_) (fun _ => d2))
          have h2' := of_decide_eq_true h2
          refine ev_pos (by omega) (ev_pos (by omega) ?_)
          exact Ev.bind (in_ev _ _ (by omega)) (ev_pos (decide_eq_true (hm (by omega))) d2)
      · refine ev_bind0 rfl (ev_ite (fun c1 => ev_pos (by omega) (ev_ite (fun c2 => ev_pos (by omega) (ev_pos (by omega) (ev_pos (by omega) ?_))) (fun _ => d3))) (fun _ => d3))
        have hm : (l.getD i z63).f1 ∈ q.getD (i + 1) [] := by
          refine Classical.byContradiction fun h => c ?_
          unfold dies
          rw [c1, c2, decide_eq_false h]
          rfl
        exact Ev.bind (contains_ev _ _ (by omega)) (ev_pos (decide_eq_true hm) d3)
theorem dead_both (l : List S63) (hl : l.length ≤ 1048576) : ∃ d : List Int, Keeps l d l.length ∧ Ev (fun k => spec_DeadAt.f k l) d ∧ Ev (fun k => impl_DeadAt.f k l) d := by
  obtain ⟨q, q1, q2, q3, q4⟩ := live_both l hl
  obtain ⟨b, h1, h2, h3⟩ := body_both l 3 hl
  rcases q4 with ⟨hg, hq⟩ | ⟨hn, rfl⟩
  · obtain rfl := h3.2 hg
    have hlen := hg.2.1
    obtain ⟨r, r1, r2, r3⟩ := reach_both l hg [0] (fun y hy => by rw [List.mem_singleton] at hy; omega) (by simp)
    obtain ⟨d, d1, d2, d3⟩ := dead_l l hl q hq q3 r r1 (l.length - 1) 0 [] (by omega) ⟨Nat.le_refl _, fun y hy => by cases hy⟩
    refine ⟨d, d1, ?_, ?_⟩
    · unfold spec_DeadAt.f
      exact ev_bind0 rfl (Ev.bind q1 (ev_neg (by omega) (Ev.bind r2 d2)))
    · unfold impl_DeadAt.f
      exact ev_bind0 rfl (Ev.bind h2 (ev_pos rfl (Ev.bind q2 (Ev.bind r3 d3))))
  · have hb : b = false := by
      cases b with
      | false => rfl
      | true => exact absurd (h3.1 rfl) hn
    subst hb
    refine ⟨[], ⟨by simp, fun y hy => by cases hy⟩, ?_, ?_⟩
    · unfold spec_DeadAt.f
      exact ev_bind0 rfl (Ev.bind q1 (ev_pos rfl (ev_some rfl)))
    · unfold impl_DeadAt.f
      exact ev_bind0 rfl (Ev.bind h2 (ev_neg (by decide) (ev_some rfl)))
end Go.Proofs.Ytocimkpafakiaaa.CoreDeadFnExactTrimProg

namespace Go.Proofs.Ytocimkpafakiaaa.CoreTrimFnExactTrimProg
open Go.RowKit Go.Proofs.Ytocimkpafakiaaa.XFnExactTrimProg Go.Proofs.Ytocimkpafakiaaa.Lib Go.Proofs.Ytocimkpafakiaaa.CoreDeadFnExactTrimProg Go.Proofs.YtocimkpafakiaaaW.PrintWords Go.Proofs.YtocimkpafakiaaaW.PrintLast Go.Proofs.YtocimkpafakiaaaW.PrintMore
set_option linter.unusedVariables false
set_option linter.unusedSimpArgs false

theorem trim_l (d : List Int) (hd : d.length ≤ 1048576) (m : Nat) (hin : ∀ y ∈ d, 0 ≤ y ∧ y < (m : Int)) : ∀ (n i : Nat) (out : List S63), i + n = d.length → out.length = m → ∃ r : List S63, r.length = m ∧ Ev (fun k => spec_TrimBody.l0 k out d i) r ∧ Ev (fun k => impl_TrimBody.l0 k out d (d.length : Int) i) r := by
  intro n
  induction n with
  | zero =>
    intro i out hi ho
    refine ⟨out, ho, Ev.step (f := fun _ => some out) (fun k => ?_) (ev_some rfl), Ev.step (f := fun _ => some out) (fun k => ?_) (ev_some rfl)⟩
    · rw [spec_TrimBody.l0, if_neg (by omega)]
    · rw [impl_TrimBody.l0, if_neg (by omega)]
  | succ n ih =>
    intro i out hi ho
    have hy := hin (rd d (i : Int)) (by rw [rd_nat, List.getD_eq_getElem?_getD, List.getElem?_eq_getElem (by omega)]; exact List.getElem_mem (by omega))
    obtain ⟨r, r1, r2, r3⟩ := ih (i + 1) (out.set (rd d (i : Int)).toNat (⟨11, 0, 0, 0, wrap64 ((rd d (i : Int)) + 1)⟩ : S63)) (by omega) (by rw [List.length_set]; exact ho)
    refine ⟨r, r1, Ev.step (fun k => ?_) r2, Ev.step (fun k => ?_) r3⟩
    · rw [spec_TrimBody.l0, if_pos (by omega), if_pos (by omega), if_pos (by omega), if_pos (by omega), w64_nat (by omega)]
    · rw [impl_TrimBody.l0, if_pos (by omega), if_pos (by omega), if_pos (by omega), if_pos (by omega), if_pos (by omega), w64_nat (by omega)]
theorem trim_both (l : List S63) (hl : l.length ≤ 1048576) : ∃ r : List S63, r.length = l.length ∧ Ev (fun k => spec_TrimBody.f k l) r ∧ Ev (fun k => impl_TrimBody.f k l) r := by
  obtain ⟨d, hd, g1, g2⟩ := dead_both l hl
  have hd1 := hd.1
  obtain ⟨r, r1, r2, r3⟩ := trim_l d (by omega) l.length hd.2 d.length 0 l (by omega) rfl
  refine ⟨r, r1, ?_, ?_⟩
  · unfold spec_TrimBody.f
    refine ev_bind0 rfl (ev_pos (by simp; omega) (Ev.bind g1 ?_))
    rw [List.nil_append]
    exact r2
  · unfold impl_TrimBody.f impl_copyBody.f
    refine ev_bind0 (x := l) ?_ (Ev.bind g2 r3)
    simp only [Option.bind_some, List.length_nil, List.nil_append]
    rw [if_pos (by omega)]
theorem trim_both2 (l : List S63) (hl : l.length ≤ 1048576) : ∃ r : List S63, r.length ≤ 1048576 ∧ Ev (fun k => spec_TrimBody.f k l) r ∧ Ev (fun k => impl_TrimBody.f k l) r := by
  obtain ⟨r, h, g⟩ := trim_both l hl
  exact ⟨r, by omega, g⟩
end Go.Proofs.Ytocimkpafakiaaa.CoreTrimFnExactTrimProg
