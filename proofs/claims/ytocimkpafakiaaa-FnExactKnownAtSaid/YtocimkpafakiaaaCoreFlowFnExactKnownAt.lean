/- Where a body may go: what is marked by the reference and by the program is one and the same, for all bodies of up to a million places. -/
import Derived.Test.YtocimkpafakiaaaWalkFnExactKnownAt
import Derived.Test.YtocimkpafakiaaaCoreBodyFnExactKnownAt
namespace Go.Proofs.Ytocimkpafakiaaa.CoreFlowFnExactKnownAt
open Go.RowKit Go.Proofs.Ytocimkpafakiaaa.XFnExactKnownAt Go.Proofs.Ytocimkpafakiaaa.Lib Go.Proofs.Ytocimkpafakiaaa.CoreInsFnExactKnownAt Go.Proofs.Ytocimkpafakiaaa.CoreBodyFnExactKnownAt Go.Proofs.YtocimkpafakiaaaW.PrintWords Go.Proofs.YtocimkpafakiaaaW.PrintLast Go.Proofs.YtocimkpafakiaaaW.PrintMore
set_option linter.unusedVariables false
set_option linter.unusedSimpArgs false

/-- The places behind place a. -/
def nx (l : List S63) (a : Int) : List Int := nxt (rd_T63 l a).f0 (rd_T63 l a).f4 (wrap64 (a + 1))
theorem impl_nx (l : List S63) (a : Int) (h : 0 ≤ a ∧ a < (l.length : Int)) : impl_nextOf.f l a = some (nx l a) := if_pos h
theorem nx_len (l : List S63) (a : Int) : (nx l a).length ≤ 2 := by
  unfold nx nxt nx2 nxC
  repeat' split
  all_goals simp
theorem nx_in (l : List S63) (c a : Int) (hg : BodyGood l c) (h : 0 ≤ a ∧ a < (l.length : Int)) : ∀ y ∈ nx l a, 0 ≤ y ∧ y < (l.length : Int) := by
  obtain ⟨m, rfl⟩ : ∃ m : Nat, a = (m : Int) := ⟨a.toNat, by omega⟩
  have hm : m < l.length := by omega
  have hi := hg.2.2.1 m hm
  have hlen := hg.2.1
  have hlast := hg.2.2.2
  unfold nx
  rw [rdIns_nat, w64 (by omega) (by omega)]
  unfold AtGood at hi
  have hn : ((l.getD m z63).f0 = 11 ∨ (l.getD m z63).f0 = 12) → 0 ≤ (l.getD m z63).f4 ∧ (l.getD m z63).f4 < (l.length : Int) := by
    intro ho
    have h5 := hi.2.2.2.2
    omega
  have hs : ¬ ((l.getD m z63).f0 = 11 ∨ (l.getD m z63).f0 = 13) → (m : Int) + 1 < (l.length : Int) := by
    intro ho
    have : ¬ m = l.length - 1 := fun e => by
      subst e
      unfold LastGood at hlast
      omega
    omega
  generalize l.getD m z63 = x at hn hs ⊢
  unfold nxt nx2 nxC
  intro y hy
  by_cases o3 : x.f0 = 13
  · rw [if_pos o3] at hy
    cases hy
  rw [if_neg o3] at hy
  by_cases o1 : x.f0 = 11
  · rw [if_pos o1, List.mem_singleton] at hy
    have := hn (.inl o1)
    omega
  rw [if_neg o1] at hy
  have h1 := hs (by omega)
  by_cases o2 : x.f0 = 12
  · have h2 := hn (.inr o2)
    rw [if_pos o2] at hy
    have : y = x.f4 ∨ y = (m : Int) + 1 := by
      revert hy
      repeat' split
      all_goals
        intro hy
        simp only [List.mem_cons, List.mem_singleton, List.not_mem_nil, or_false] at hy
        omega
    omega
  · rw [if_neg o2, List.mem_singleton] at hy
    omega
theorem spec_nx (l : List S63) (a : Int) (hg : BodyGood l 3) (h : 0 ≤ a ∧ a < (l.length : Int)) : Ev (fun k => spec_NextOf.f k l a) (nx l a) := by
  have hlen := hg.2.1
  obtain ⟨b, h1, _, h3⟩ := body_both l 3 (by omega)
  obtain rfl := h3.2 hg
  unfold spec_NextOf.f
  refine Ev.bind h1 (ev_pos rfl ?_)
  rw [in_eq, w64 (x := (l.length : Int) - 1) (by omega) (by omega), decide_eq_true (show 0 ≤ a ∧ a ≤ (l.length : Int) - 1 from ⟨h.1, by omega⟩)]
  refine ev_bind0 rfl (Ev.step (f := fun _ => some (nx l a)) (fun k => ?_) (ev_some rfl))
  rw [spec_NextOf.j0, if_neg (by decide), if_pos h.1, if_pos h.2]
  unfold nx nxt nx2 nxC
  by_cases o3 : (rd_T63 l a).f0 = 13
  · rw [if_pos o3, if_pos o3]
  rw [if_neg o3, if_neg o3]
  by_cases o1 : (rd_T63 l a).f0 = 11
  · rw [if_pos o1, if_pos o1]
  rw [if_neg o1, if_neg o1]
  by_cases o2 : (rd_T63 l a).f0 = 12
  · rw [if_pos o2, if_pos o2]
    by_cases c : (rd_T63 l a).f4 < wrap64 (a + 1)
    · rw [if_pos c, if_pos c, if_neg (by omega)]
    · rw [if_neg c, if_neg c]
      by_cases c2 : (rd_T63 l a).f4 > wrap64 (a + 1)
      · rw [if_pos c2, if_neg (by omega)]
      · rw [if_neg c2, if_pos (by omega)]
  · rw [if_neg o2, if_neg o2]

def unseen : List Bool → Nat
  | [] => 0
  | b :: t => (if b = true then 0 else 1) + unseen t
theorem unseen_le (x : List Bool) : unseen x ≤ x.length := by
  induction x with
  | nil => exact Nat.le_refl _
  | cons b t ih =>
    simp only [unseen, List.length_cons]
    split <;> omega
theorem unseen_set (x : List Bool) : ∀ i : Nat, i < x.length → x.getD i false = false → unseen (x.set i true) + 1 = unseen x := by
  induction x with
  | nil => intro i hi; simp at hi
  | cons b t ih =>
    intro i hi h
    cases i with
    | zero =>
      have hb : b = false := by simpa using h
      subst hb
      simp [unseen]
      omega
    | succ i =>
      have h2 := ih i (by simpa using hi) (by simpa using h)
      simp only [List.set_cons_succ, unseen]
      omega
def Hit (r : List Bool) (y : Int) : Prop := r.getD y.toNat false = true
/-- What is reached leads to what is reached. -/
def FlowShut (l : List S63) (r : List Bool) : Prop := ∀ a : Int, 0 ≤ a → a < (l.length : Int) → Hit r a → ∀ y ∈ nx l a, Hit r y
theorem hit_set (r : List Bool) (i : Nat) (y : Int) (h : Hit r y) : Hit (r.set i true) y := by
  unfold Hit at h ⊢
  by_cases e : i = y.toNat
  · subst e
    by_cases hl : y.toNat < r.length
    · exact L_set_self _ _ _ _ hl
    · rw [List.set_eq_of_length_le (by omega)]
      exact h
  · rw [L_set_ne _ _ _ _ _ e]
    exact h
theorem unseen_replicate (n : Nat) : unseen (List.replicate n false) ≤ n := by
  have := unseen_le (List.replicate n false)
  simpa using this
theorem not_hit_replicate (n : Nat) (a : Int) : ¬ Hit (List.replicate n false) a := by
  unfold Hit
  rw [List.getD_eq_getElem?_getD, List.getElem?_replicate]
  split <;> simp
end Go.Proofs.Ytocimkpafakiaaa.CoreFlowFnExactKnownAt
