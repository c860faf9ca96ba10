import Derived.Test.YtocimkpafakiaaaXFnExactTrimBodyx15
import Derived.Test.YtocimkpafakiaaaLib
import Derived.Lib.SlicesCompact
namespace Go.Proofs.Ytocimkpafakiaaa.CoreSortedFnExactTrimBody
open Go.RowKit Go.Proofs.Ytocimkpafakiaaa.XFnExactTrimBody Go.Proofs.Ytocimkpafakiaaa.Lib
set_option linter.unusedVariables false
set_option linter.unusedSimpArgs false
theorem inc_ext : ∀ (a b : List Int), a.Pairwise (· < ·) → b.Pairwise (· < ·) → (∀ v, v ∈ a ↔ v ∈ b) → a = b := by
  intro a
  induction a with
  | nil =>
    intro b _ _ h
    cases b with
    | nil => rfl
    | cons y b => exact absurd ((h y).2 (by simp)) (by simp)
  | cons x a ih =>
    intro b ha hb h
    cases b with
    | nil => exact absurd ((h x).1 (by simp)) (by simp)
    | cons y b =>
      rw [List.pairwise_cons] at ha hb
      have h1 := (h x).1 (by simp)
      have h2 := (h y).2 (by simp)
      rw [List.mem_cons] at h1 h2
      have e : x = y := by
        rcases h1 with h1 | h1
        · exact h1
        · rcases h2 with h2 | h2
          · exact h2.symm
          · have := ha.1 y h2
            have := hb.1 x h1
            omega
      subst e
      rw [ih b ha.2 hb.2 (fun v => ?_)]
      have hv := h v
      rw [List.mem_cons, List.mem_cons] at hv
      refine ⟨fun hm => ?_, fun hm => ?_⟩
      · rcases hv.1 (.inr hm) with e | e
        · subst e
          have := ha.1 v hm
          omega
        · exact e
      · rcases hv.2 (.inr hm) with e | e
        · subst e
          have := hb.1 v hm
          omega
        · exact e
theorem comp_upto (d : Array Int) (hs : ∀ i j : Nat, i ≤ j → j < d.size → d[i]! ≤ d[j]!) : ∀ m, m ≤ d.size →
    (Go.Lib.compactUpTo d m).Pairwise (· < ·) ∧ (∀ v ∈ Go.Lib.compactUpTo d m, ∃ j, j < m ∧ v = d[j]!) ∧ ∀ j, j < m → d[j]! ∈ Go.Lib.compactUpTo d m := by
  intro m
  induction m with
  | zero => exact fun _ => ⟨by simp [Go.Lib.compactUpTo], fun v hv => by simp [Go.Lib.compactUpTo] at hv, fun j hj => absurd hj (Nat.not_lt_zero _)⟩
  | succ m ih =>
    intro hm
    obtain ⟨h1, h2, h3⟩ := ih (by omega)
    rw [Go.Lib.compactUpTo_succ]
    by_cases hk : Go.Lib.keeps d m = true
    · rw [if_pos hk]
      refine ⟨?_, fun v hv => ?_, fun j hj => ?_⟩
      · rw [List.pairwise_append]
        refine ⟨h1, by simp, fun a ha b hb => ?_⟩
        rw [List.mem_singleton] at hb
        subst hb
        obtain ⟨j, hj, rfl⟩ := h2 a ha
        have e1 := hs j (m - 1) (by omega) (by omega)
        have e2 := hs (m - 1) m (by omega) (by omega)
        have e3 : d[m]! ≠ d[m - 1]! := by
          rcases (of_decide_eq_true hk : m = 0 ∨ d[m]! ≠ d[m - 1]!) with h | h
          · omega
          · exact h
        show d[j]! < d[m]!
        omega
      · rw [List.mem_append, List.mem_singleton] at hv
        rcases hv with hv | hv
        · obtain ⟨j, hj, e⟩ := h2 v hv
          exact ⟨j, by omega, e⟩
        · exact ⟨m, by omega, hv⟩
      · rw [List.mem_append, List.mem_singleton]
        by_cases e : j = m
        · exact .inr (by rw [e])
        · exact .inl (h3 j (by omega))
    · rw [if_neg hk, List.append_nil]
      have hk' : ¬ (m = 0 ∨ d[m]! ≠ d[m - 1]!) := fun h => hk (decide_eq_true h)
      have hm0 : m ≠ 0 := fun h => hk' (.inl h)
      have he : d[m]! = d[m - 1]! := Classical.not_not.1 (fun h => hk' (.inr h))
      refine ⟨h1, fun v hv => ?_, fun j hj => ?_⟩
      · obtain ⟨j, hj, e⟩ := h2 v hv
        exact ⟨j, by omega, e⟩
      · by_cases e : j = m
        · rw [e, he]
          exact h3 (m - 1) (by omega)
        · exact h3 j (by omega)
theorem comp_sorted (l : List Int) : (Go.Lib.compact (sorted l)).Pairwise (· < ·) ∧ ∀ v, v ∈ Go.Lib.compact (sorted l) ↔ v ∈ l := by
  have hp : (sorted l).Pairwise (fun a b => decide (a ≤ b) = true) := List.pairwise_mergeSort (fun a b c h1 h2 => by simp at h1 h2 ⊢; omega) (fun a b => by simp; omega) l
  have hm : ∀ v, v ∈ sorted l ↔ v ∈ l := fun v => List.mem_mergeSort
  have hg : ∀ i : Nat, i < (sorted l).length → (sorted l).toArray[i]! = (sorted l).getD i 0 := fun i hi => by
    simp [List.getD_eq_getElem?_getD, List.getElem?_eq_getElem hi, getElem!_pos, hi]
  have hs : ∀ i j : Nat, i ≤ j → j < (sorted l).toArray.size → (sorted l).toArray[i]! ≤ (sorted l).toArray[j]! := by
    intro i j hij hj
    have hj' : j < (sorted l).length := by simpa using hj
    by_cases e : i = j
    · subst e
      exact Int.le_refl _
    · have h := (List.pairwise_iff_getElem.1 hp) i j (by omega) hj' (by omega)
      rw [hg i (by omega), hg j hj', List.getD_eq_getElem?_getD, List.getElem?_eq_getElem (by omega), List.getD_eq_getElem?_getD, List.getElem?_eq_getElem hj']
      simpa using h
  obtain ⟨h1, h2, h3⟩ := comp_upto (sorted l).toArray hs (sorted l).length (by simp)
  refine ⟨h1, fun v => ⟨fun hv => ?_, fun hv => ?_⟩⟩
  · obtain ⟨j, hj, rfl⟩ := h2 v hv
    rw [← hm, hg j hj, List.getD_eq_getElem?_getD, List.getElem?_eq_getElem hj]
    exact List.getElem_mem hj
  · obtain ⟨j, hj, rfl⟩ := List.mem_iff_getElem.1 ((hm v).2 hv)
    have := h3 j hj
    rw [hg j hj, List.getD_eq_getElem?_getD, List.getElem?_eq_getElem hj] at this
    exact this
end Go.Proofs.Ytocimkpafakiaaa.CoreSortedFnExactTrimBody
