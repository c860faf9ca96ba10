/- Where a body may go: what is marked by the reference and by the program is one and the same, for all bodies of up to a million places. -/
import Derived.Test.YtocimkpafakiaaaWalkFnExactPackProg
import Derived.Test.YtocimkpafakiaaaCoreBodyFnExactPackProg
namespace Go.Proofs.Ytocimkpafakiaaa.CoreFlowFnExactPackProg
open Go.RowKit Go.Proofs.Ytocimkpafakiaaa.XFnExactPackProg Go.Proofs.Ytocimkpafakiaaa.Lib Go.Proofs.Ytocimkpafakiaaa.CoreInsFnExactPackProg Go.Proofs.Ytocimkpafakiaaa.CoreBodyFnExactPackProg Go.Proofs.YtocimkpafakiaaaW.PrintWords Go.Proofs.YtocimkpafakiaaaW.PrintLast Go.Proofs.YtocimkpafakiaaaW.PrintMore
set_option linter.unusedVariables false
set_option linter.unusedSimpArgs false

/-- The places behind place a. -/
def nx (l : List S63) (a : Int) : List Int := nxt (rd_T63 l a).f0 (rd_T63 l a).f4 (wrap64 (a + 1))
theorem impl_nx (l : List S63) (a : Int) (h : 0 ≤ a ∧ a < (l.length : Int)) : impl_nextOf.f l a = some (nx l a) := if_pos h
theorem nx_len (l : List S63) (a : Int) : (nx l a).length ≤ 2 := by
  unfold nx nxt nx2 nxC
  repeat' split
  all_goals simp
theorem nx_in (l : List S63) (c a : Int) (hg : BodyGood l c) (h : 0 ≤ a ∧ a < (l.length : Int)) : ∀ y ∈ nx l a, 0 ≤ y ∧ y < (l.length : Int) := by
  obtain ⟨m, rfl⟩ : ∃ m : Nat, a = (m : Int) := ⟨a.toNat, by omega⟩
  have hm : m < l.length := by omega
  have hi := hg.2.2.1 m hm
  have hlen := hg.2.1
  have hlast := hg.2.2.2
  unfold nx
  rw [rdIns_nat, w64 (by omega) (by omega)]
  unfold AtGood at hi
  have hn : ((l.getD m z63).f0 = 11 ∨ (l.getD m z63).f0 = 12) → 0 ≤ (l.getD m z63).f4 ∧ (l.getD m z63).f4 < (l.length : Int) := by
    intro ho
    have h5 := hi.2.2.2.2
    omega
  have hs : ¬ ((l.getD m z63).f0 = 11 ∨ (l.getD m z63).f0 = 13) → (m : Int) + 1 < (l.length : Int) := by
    intro ho
    have : ¬ m = l.length - 1 := fun e => by
      subst e
      unfold LastGood at hlast
      omega
    omega
  generalize l.getD m z63 = x at hn hs ⊢
  unfold nxt nx2 nxC
  intro y hy
  by_cases o3 : x.f0 = 13
  · rw [if_pos o3] at hy
    cases hy
  rw [if_neg o3] at hy
  by_cases o1 : x.f0 = 11
  · rw [if_pos o1, List.mem_singleton] at hy
    have := hn (.inl o1)
    omega
  rw [if_neg o1] at hy
  have h1 := hs (by omega)
  by_cases o2 : x.f0 = 12
  · have h2 := hn (.inr o2)
    rw [if_pos o2] at hy
    have : y = x.f4 ∨ y = (m : Int) + 1 := by
      revert hy
      repeat' split
      all_goals
        intro hy
        simp only [List.mem_cons, List.mem_singleton, List.not_mem_nil, or_false] at hy
        omega
    omega
  · rw [if_neg o2, List.mem_singleton] at hy
    omega
theorem spec_nx (l : List S63) (a : Int) (hg : BodyGood l 3) (h : 0 ≤ a ∧ a < (l.length : Int)) : Ev (fun k => spec_NextOf.f k l a) (nx l a) := by
  have hlen := hg.2.1
  obtain ⟨b, h1, _, h3⟩ := body_both l 3 (by omega)
  obtain rfl := h3.2 hg
  unfold spec_NextOf.f
  refine Ev.bind h1 (ev_pos rfl ?_)
  rw [in_eq, w64 (x := (l.length : Int) - 1) (by omega) (by omega), decide_eq_true (show 0 ≤ a ∧ a ≤ (l.length : Int) - 1 from ⟨h.1, by omega⟩)]
  refine ev_bind0 rfl (Ev.step (f := fun _ => some (nx l a)) (fun k => ?_) (ev_some rfl))
  rw [spec_NextOf.j0, if_neg (by decide), if_pos h.1, if_pos h.2]
  unfold nx nxt nx2 nxC
  by_cases o3 : (rd_T63 l a).f0 = 13
  · rw [if_pos o3, if_pos o3]
  rw [if_neg o3, if_neg o3]
  by_cases o1 : (rd_T63 l a).f0 = 11
  · rw [if_pos o1, if_pos o1]
  rw [if_neg o1, if_neg o1]
  by_cases o2 : (rd_T63 l a).f0 = 12
  · rw [if_pos o2, if_pos o2]
    by_cases c : (rd_T63 l a).f4 < wrap64 (a + 1)
    · rw [if_pos c, if_pos c, if_neg (by omega)]
    · rw [if_neg c, if_neg c]
      by_cases c2 : (rd_T63 l a).f4 > wrap64 (a + 1)
      · rw [if_pos c2, if_neg (by omega)]
      · rw [if_neg c2, if_pos (by omega)]
  · rw [if_neg o2, if_neg o2]

def unseen : List Bool → Nat
  | [] => 0
  | b :: t => (if b = true then 0 else 1) + unseen t
theorem unseen_le (x : List Bool) : unseen x ≤ x.length := by
  induction x with
  | nil => exact Nat.le_refl _
  | cons b t ih =>
    simp only [unseen, List.length_cons]
    split <;> omega
theorem unseen_set (x : List Bool) : ∀ i : Nat, i < x.length → x.getD i false = false → unseen (x.set i true) + 1 = unseen x := by
  induction x with
  | nil => intro i hi; simp at hi
  | cons b t ih =>
    intro i hi h
    cases i with
    | zero =>
      have hb : b = false := by simpa using h
      subst hb
      simp [unseen]
      omega
    | succ i =>
      have h2 := ih i (by simpa using hi) (by simpa using h)
      simp only [List.set_cons_succ, unseen]
      omega
def Hit (r : List Bool) (y : Int) : Prop := r.getD y.toNat false = true
/-- What is reached leads to what is reached. -/
def FlowShut (l : List S63) (r : List Bool) : Prop := ∀ a : Int, 0 ≤ a → a < (l.length : Int) → Hit r a → ∀ y ∈ nx l a, Hit r y
theorem hit_set (r : List Bool) (i : Nat) (y : Int) (h : Hit r y) : Hit (r.set i true) y := by
  unfold Hit at h ⊢
  by_cases e : i = y.toNat
  · subst e
    by_cases hl : y.toNat < r.length
    · exact L_set_self _ _ _ _ hl
    · rw [List.set_eq_of_length_le (by omega)]
      exact h
  · rw [L_set_ne _ _ _ _ _ e]
    exact h
theorem marks_both (l : List S63) (hg : BodyGood l 3) : ∀ (n : Nat) (seen : List Bool) (todo : List Int), seen.length = l.length → (∀ y ∈ todo, 0 ≤ y ∧ y < (l.length : Int)) → (∀ a : Int, 0 ≤ a → a < (l.length : Int) → Hit seen a → ∀ y ∈ nx l a, Hit seen y ∨ y ∈ todo) → 3 * unseen seen + todo.length ≤ n → n ≤ 1048576 → ∃ r : List Bool, r.length = l.length ∧ Ev (fun k => spec_l18Marks.l0 k l seen todo) r ∧ Ev (fun k => impl_reached.l0 k l seen todo) r ∧ (∀ y, Hit seen y → Hit r y) ∧ (∀ y ∈ todo, Hit r y) ∧ FlowShut l r := by
  intro n
  induction n with
  | zero =>
    intro seen todo hs ht hc hn hb
    obtain rfl : todo = [] := List.eq_nil_of_length_eq_zero (by omega)
    exact ⟨seen, hs, Ev.step (f := fun _ => some seen) (fun k => by simp [spec_l18Marks.l0]) (ev_some rfl), Ev.step (f := fun _ => some seen) (fun k => by simp [impl_reached.l0]) (ev_some rfl), fun y h => h, fun y h => (by cases h), fun a a0 a1 h y hy => (hc a a0 a1 h y hy).elim (fun g => g) (fun g => by cases g)⟩
  | succ n ih =>
    intro seen todo hs ht hc hn hb
    cases todo with
    | nil => exact ⟨seen, hs, Ev.step (f := fun _ => some seen) (fun k => by simp [spec_l18Marks.l0]) (ev_some rfl), Ev.step (f := fun _ => some seen) (fun k => by simp [impl_reached.l0]) (ev_some rfl), fun y h => h, fun y h => (by cases h), fun a a0 a1 h y hy => (hc a a0 a1 h y hy).elim (fun g => g) (fun g => by cases g)⟩
    | cons y rest =>
      have hy := ht y (List.mem_cons_self ..)
      have hr : ∀ z ∈ rest, 0 ≤ z ∧ z < (l.length : Int) := fun z hz => ht z (List.mem_cons_of_mem _ hz)
      have e0 : rd (y :: rest) 0 = y := rfl
      have elen : ((y :: rest).length : Int) = (rest.length : Int) + 1 := by simp
      rw [List.length_cons] at hn
      have hrb : rdOf false seen y = seen.getD y.toNat false := rfl
      by_cases hseen : rdOf false seen y = true
      · obtain ⟨r, h1, h2, h3, h4, h5, h6⟩ := ih seen rest hs hr (fun a a0 a1 h z hz => (hc a a0 a1 h z hz).elim .inl (fun g => (List.mem_cons.1 g).elim (fun e => .inl (e ▸ hseen)) .inr)) (by omega) (by omega)
        refine ⟨r, h1, Ev.step (fun k => by rw [spec_l18Marks.l0]) ?_, Ev.step (fun k => by rw [impl_reached.l0]) ?_, h4, fun z hz => (List.mem_cons.1 hz).elim (fun e => h4 z (e ▸ hseen)) (h5 z), h6⟩
        · refine ev_pos (by omega) (ev_pos (by omega) (ev_bind0 rfl (ev_pos (by omega) (ev_bind0 rfl (ev_pos (by simp; omega) (ev_bind0 rfl ?_))))))
          rw [e0]
          exact ev_pos hy.1 (ev_pos (by omega) (ev_pos hseen h2))
        · refine ev_pos (by omega) (ev_pos (by omega) (ev_pos (by omega) (ev_bind0 rfl ?_)))
          rw [e0]
          exact ev_pos hy.1 (ev_pos (by omega) (ev_pos hseen h3))
      · have hlt : y.toNat < seen.length := by omega
        have hu := unseen_set seen y.toNat hlt (by rw [← hrb]; exact Bool.eq_false_iff.mpr hseen)
        have hnl := nx_len l y
        have hself : Hit (seen.set y.toNat true) y := L_set_self _ _ _ _ hlt
        obtain ⟨r, h1, h2, h3, h4, h5, h6⟩ := ih (seen.set y.toNat true) (rest ++ nx l y) (by simpa using hs) (fun z hz => by
          rcases List.mem_append.1 hz with h | h
          · exact hr z h
          · exact nx_in l 3 y hg hy z h) (fun a a0 a1 h z hz => by
          by_cases e : a = y
          · subst e
            exact .inr (List.mem_append.2 (.inr hz))
          · have h' : Hit seen a := by
              unfold Hit at h ⊢
              rw [L_set_ne _ _ _ _ _ (by omega)] at h
              exact h
            exact (hc a a0 a1 h' z hz).elim (fun g => .inl (hit_set _ _ _ g)) (fun g => (List.mem_cons.1 g).elim (fun e => .inl (e ▸ hself)) (fun g => .inr (List.mem_append.2 (.inl g))))) (by rw [List.length_append]; omega) (by omega)
        refine ⟨r, h1, Ev.step (fun k => by rw [spec_l18Marks.l0]) ?_, Ev.step (fun k => by rw [impl_reached.l0]) ?_, fun z hz => h4 z (hit_set _ _ _ hz), fun z hz => (List.mem_cons.1 hz).elim (fun e => h4 z (e ▸ hself)) (fun g => h5 z (List.mem_append.2 (.inl g))), h6⟩
        · refine ev_pos (by omega) (ev_pos (by omega) (ev_bind0 rfl (ev_pos (by omega) (ev_bind0 rfl (ev_pos (by simp; omega) (ev_bind0 rfl ?_))))))
          rw [e0]
          refine ev_pos hy.1 (ev_pos (by omega) (ev_neg hseen (Ev.bind (spec_nx l y hg hy) (ev_pos (by simp; omega) ?_))))
          exact h2
        · refine ev_pos (by omega) (ev_pos (by omega) (ev_pos (by omega) (ev_bind0 rfl ?_)))
          rw [e0]
          refine ev_pos hy.1 (ev_pos (by omega) (ev_neg hseen (ev_bind0 (impl_nx l y hy) (ev_pos (by simp; omega) ?_))))
          exact h3
theorem unseen_replicate (n : Nat) : unseen (List.replicate n false) ≤ n := by
  have := unseen_le (List.replicate n false)
  simpa using this
theorem not_hit_replicate (n : Nat) (a : Int) : ¬ Hit (List.replicate n false) a := by
  unfold Hit
  rw [List.getD_eq_getElem?_getD, List.getElem?_replicate]
  split <;> simp
theorem reach_both2 (l : List S63) (hg : BodyGood l 3) (from_ : List Int) (hf : ∀ y ∈ from_, 0 ≤ y ∧ y < (l.length : Int)) (hl : from_.length ≤ 1000) : ∃ r : List Bool, r.length = l.length ∧ Ev (fun k => spec_l18Marks.f k l from_) r ∧ Ev (fun k => impl_reached.f k l from_) r ∧ (∀ y ∈ from_, Hit r y) ∧ FlowShut l r := by
  have hlen := hg.2.1
  have hu := unseen_replicate l.length
  obtain ⟨r, h1, h2, h3, h4, h5, h6⟩ := marks_both l hg (3 * l.length + 1000) (List.replicate l.length false) from_ (by simp) hf (fun a _ _ h => absurd h (not_hit_replicate _ _)) (by omega) (by omega)
  refine ⟨r, h1, ?_, ?_, h5, h6⟩
  · unfold spec_l18Marks.f
    rw [Int.toNat_natCast]
    exact ev_pos (by omega) (ev_pos (by omega) (ev_bind0 rfl (ev_pos (by simp; omega) h2)))
  · unfold impl_reached.f impl_copyInts.f
    rw [Int.toNat_natCast]
    refine ev_pos (by omega) (ev_pos (by omega) (ev_bind0 (x := from_) ?_ h3))
    simp only [Option.bind_some, List.nil_append]
    rw [if_pos (by simp; omega)]
theorem reach_both (l : List S63) (hg : BodyGood l 3) (from_ : List Int) (hf : ∀ y ∈ from_, 0 ≤ y ∧ y < (l.length : Int)) (hl : from_.length ≤ 1000) : ∃ r : List Bool, r.length = l.length ∧ Ev (fun k => spec_l18Marks.f k l from_) r ∧ Ev (fun k => impl_reached.f k l from_) r := by
  obtain ⟨r, h1, h2, h3, _, _⟩ := reach_both2 l hg from_ hf hl
  exact ⟨r, h1, h2, h3⟩
end Go.Proofs.Ytocimkpafakiaaa.CoreFlowFnExactPackProg
