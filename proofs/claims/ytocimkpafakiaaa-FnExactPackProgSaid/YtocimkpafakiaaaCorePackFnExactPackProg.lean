/- PackBody: what the reference and the program pack of a body is one and the same, for all bodies. -/
import Derived.Test.YtocimkpafakiaaaWalkFnExactPackProg
import Derived.Test.YtocimkpafakiaaaCoreFlowFnExactPackProg
import Derived.Test.YtocimkpafakiaaaCoreSkipFnExactPackProg
namespace Go.Proofs.Ytocimkpafakiaaa.CorePackFnExactPackProg
open Go.RowKit Go.Proofs.Ytocimkpafakiaaa.XFnExactPackProg Go.Proofs.Ytocimkpafakiaaa.Lib Go.Proofs.Ytocimkpafakiaaa.CoreInsFnExactPackProg Go.Proofs.Ytocimkpafakiaaa.CoreBodyFnExactPackProg Go.Proofs.Ytocimkpafakiaaa.CoreFlowFnExactPackProg Go.Proofs.Ytocimkpafakiaaa.CoreSkipFnExactPackProg Go.Proofs.YtocimkpafakiaaaW.PrintWords Go.Proofs.YtocimkpafakiaaaW.PrintLast Go.Proofs.YtocimkpafakiaaaW.PrintMore
set_option linter.unusedVariables false
set_option linter.unusedSimpArgs false

/-- The places below n that are marked, ascending. -/
def pos (r : List Bool) : Nat → List Int
  | 0 => []
  | n + 1 => if r.getD n false = true then pos r n ++ [(n : Int)] else pos r n
theorem pos_hit (r : List Bool) (n : Nat) (h : r.getD n false = true) : pos r (n + 1) = pos r n ++ [(n : Int)] := if_pos h
theorem pos_miss (r : List Bool) (n : Nat) (h : ¬ r.getD n false = true) : pos r (n + 1) = pos r n := if_neg h
theorem pos_len (r : List Bool) (n : Nat) : (pos r n).length ≤ n := by
  induction n with
  | zero => exact Nat.le_refl _
  | succ n ih =>
    by_cases h : r.getD n false = true
    · rw [pos_hit r n h, List.length_append]
      simp
      omega
    · rw [pos_miss r n h]
      omega
theorem pos_hit_len (r : List Bool) (n : Nat) (h : r.getD n false = true) : (pos r (n + 1)).length = (pos r n).length + 1 := by
  rw [pos_hit r n h, List.length_append]
  rfl
theorem pos_mono (r : List Bool) (m d : Nat) : (pos r m).length ≤ (pos r (m + d)).length := by
  induction d with
  | zero => exact Nat.le_refl _
  | succ d ih =>
    by_cases h : r.getD (m + d) false = true
    · rw [← Nat.add_assoc, pos_hit_len r (m + d) h]
      omega
    · rw [← Nat.add_assoc, pos_miss r (m + d) h]
      exact ih
theorem pos_get (r : List Bool) (j : Nat) (h : r.getD j false = true) (d : Nat) : (pos r (j + 1 + d)).getD (pos r j).length 0 = (j : Int) := by
  induction d with
  | zero =>
    rw [Nat.add_zero, pos_hit r j h, List.getD_eq_getElem?_getD, List.getElem?_append_right (Nat.le_refl _)]
    simp
  | succ d ih =>
    by_cases g : r.getD (j + 1 + d) false = true
    · have h1 := pos_mono r (j + 1) d
      rw [pos_hit_len r j h] at h1
      rw [← Nat.add_assoc, pos_hit r (j + 1 + d) g, List.getD_eq_getElem?_getD, List.getElem?_append_left (by omega), ← List.getD_eq_getElem?_getD]
      exact ih
    · rw [← Nat.add_assoc, pos_miss r (j + 1 + d) g]
      exact ih
theorem pos_inj (r : List Bool) (j j' : Nat) (h : r.getD j false = true) (h' : r.getD j' false = true) (e : (pos r j).length = (pos r j').length) : j = j' := by
  have up : ∀ a b : Nat, r.getD a false = true → a < b → (pos r a).length < (pos r b).length := fun a b ha hab => by
    have := pos_mono r (a + 1) (b - (a + 1))
    rw [pos_hit_len r a ha, show a + 1 + (b - (a + 1)) = b by omega] at this
    omega
  rcases Nat.lt_trichotomy j j' with g | g | g
  · have := up j j' h g
    omega
  · exact g
  · have := up j' j h' g
    omega
theorem pos_at (r : List Bool) (n : Nat) : ∀ i, i < (pos r n).length → ∃ j, j < n ∧ r.getD j false = true ∧ (pos r j).length = i ∧ (pos r n).getD i 0 = (j : Int) := by
  induction n with
  | zero => intro i hi; exact absurd hi (Nat.not_lt_zero _)
  | succ n ih =>
    intro i hi
    by_cases h : r.getD n false = true
    · by_cases e : i = (pos r n).length
      · subst e
        exact ⟨n, by omega, h, rfl, pos_get r n h 0⟩
      · rw [pos_hit_len r n h] at hi
        obtain ⟨j, h1, h2, h3, h4⟩ := ih i (by omega)
        refine ⟨j, by omega, h2, h3, ?_⟩
        rw [pos_hit r n h, List.getD_eq_getElem?_getD, List.getElem?_append_left (by omega), ← List.getD_eq_getElem?_getD]
        exact h4
    · rw [pos_miss r n h] at hi ⊢
      obtain ⟨j, h1, h2, h3, h4⟩ := ih i hi
      exact ⟨j, by omega, h2, h3, h4⟩
theorem spec_pos (r : List Bool) (hr : r.length ≤ 1048576) : ∀ (n i : Nat), i + n = r.length → Ev (fun k => spec_l18Places.l0 k r true (pos r i) i) (pos r r.length) := by
  intro n
  induction n with
  | zero =>
    intro i hi
    refine Ev.step (f := fun _ => some (pos r r.length)) (fun k => ?_) (ev_some rfl)
    rw [spec_l18Places.l0, if_neg (by omega), show i = r.length by omega]
  | succ n ih =>
    intro i hi
    have h2 := ih (i + 1) (by omega)
    have hp := pos_len r i
    have hrd : rdOf false r (i : Int) = r.getD i false := by unfold rdOf; rw [Int.toNat_natCast]
    by_cases c : r.getD i false = true
    · rw [pos_hit r i c] at h2
      refine Ev.step (fun k => ?_) h2
      rw [spec_l18Places.l0, if_pos (by omega), if_pos (by omega), if_pos (by rw [hrd, c]; rfl), if_pos (by omega), w64_nat (by omega)]
    · rw [pos_miss r i c] at h2
      refine Ev.step (fun k => ?_) h2
      rw [spec_l18Places.l0, if_pos (by omega), if_pos (by omega), if_neg (by rw [hrd, Bool.eq_false_iff.mpr c]; decide), w64_nat (by omega)]

/-- What has been skipped up to place i of body l. -/
def Skipped (l m : List S63) (i : Nat) : Prop := m.length = l.length ∧ (∀ j, i ≤ j → m.getD j z63 = l.getD j z63) ∧ ∀ j, j < i → j < l.length → (m.getD j z63).f0 = (l.getD j z63).f0 ∧ (m.getD j z63).f1 = (l.getD j z63).f1 ∧ (m.getD j z63).f2 = (l.getD j z63).f2 ∧ (m.getD j z63).f3 = (l.getD j z63).f3 ∧ (((l.getD j z63).f0 = 11 ∨ (l.getD j z63).f0 = 12) → 0 ≤ (m.getD j z63).f4 ∧ (m.getD j z63).f4 < (l.length : Int)) ∧ (¬ ((l.getD j z63).f0 = 11 ∨ (l.getD j z63).f0 = 12) → (m.getD j z63).f4 = (l.getD j z63).f4)
theorem skipped_keep (l m : List S63) (i : Nat) (h : Skipped l m i) (ho : ¬ ((l.getD i z63).f0 = 11 ∨ (l.getD i z63).f0 = 12)) : Skipped l m (i + 1) := by
  refine ⟨h.1, fun j hj => h.2.1 j (by omega), fun j hj hl => ?_⟩
  by_cases e : j = i
  · subst e
    rw [h.2.1 j (Nat.le_refl _)]
    exact ⟨rfl, rfl, rfl, rfl, fun g => absurd g ho, fun _ => rfl⟩
  · exact h.2.2 j (by omega) hl
theorem skipped_set (l m : List S63) (i : Nat) (r : Int) (h : Skipped l m i) (hi : i < l.length) (ho : (l.getD i z63).f0 = 11 ∨ (l.getD i z63).f0 = 12) (hr : 0 ≤ r ∧ r < (l.length : Int)) : Skipped l (m.set i (⟨(l.getD i z63).f0, (l.getD i z63).f1, (l.getD i z63).f2, (l.getD i z63).f3, r⟩ : S63)) (i + 1) := by
  refine ⟨by rw [List.length_set]; exact h.1, fun j hj => ?_, fun j hj hl => ?_⟩
  · rw [L_set_ne _ _ _ _ _ (by omega)]
    exact h.2.1 j (by omega)
  · by_cases e : j = i
    · subst e
      rw [L_set_self _ _ _ _ (by rw [h.1]; exact hi)]
      exact ⟨rfl, rfl, rfl, rfl, fun _ => hr, fun g => absurd ho g⟩
    · rw [L_set_ne _ _ _ _ _ (by omega)]
      exact h.2.2 j (by omega) hl
theorem skipped_good (l m : List S63) (h : Skipped l m l.length) (hg : BodyGood l 3) : BodyGood m 3 := by
  have hlen := h.1
  have h2 := hg.2.1
  refine ⟨hg.1, by omega, fun j hj => ?_, ?_⟩
  · obtain ⟨e0, e1, e2, e3, e4, e5⟩ := h.2.2 j (by omega) (by omega)
    have hi := hg.2.2.1 j (by omega)
    unfold AtGood at hi ⊢
    rw [e0, e1, e2, e3, hlen]
    by_cases ho : (l.getD j z63).f0 = 11 ∨ (l.getD j z63).f0 = 12
    · have hn := e4 ho
      generalize (l.getD j z63).f0 = o at hi ho ⊢
      generalize (m.getD j z63).f4 = n at hn ⊢
      unfold InsGood at hi ⊢
      rcases ho with rfl | rfl
      · simp only [Int.reduceEq, false_and, true_and, false_or, or_false, or_self] at hi ⊢
        exact ⟨hi.1, hi.2.1, hi.2.2.1, hi.2.2.2.1, hn, hi.2.2.2.2.2⟩
      · simp only [Int.reduceEq, false_and, true_and, false_or, or_false, or_self] at hi ⊢
        exact ⟨hi.1, hi.2.1, hi.2.2.1, hi.2.2.2.1, hn, hi.2.2.2.2.2⟩
    · rw [e5 ho]
      exact hi
  · have hl := hg.2.2.2
    unfold LastGood at hl ⊢
    rw [hlen, (h.2.2 (l.length - 1) (by omega) (by omega)).1]
    exact hl

theorem spec_placed (m : List S63) (r : List Bool) (hm : m.length ≤ 1048576) (hr : r.length = m.length) : ∀ (n i : Nat) (pl : List Int), i + n = (pos r r.length).length → pl.length = m.length → (∀ j, j < m.length → r.getD j false = true → (pos r j).length < i → pl.getD j 0 = ((pos r j).length : Int)) →
    ∃ pl' : List Int, pl'.length = m.length ∧ (∀ j, j < m.length → r.getD j false = true → pl'.getD j 0 = ((pos r j).length : Int)) ∧ ∀ q, Ev (fun k => spec_PackBody.l2 k m (pos r r.length) pl' [] 0) q → Ev (fun k => spec_PackBody.l1 k m (pos r r.length) pl i) q := by
  intro n
  have hpl := pos_len r r.length
  induction n with
  | zero =>
    intro i pl hi hl hp
    refine ⟨pl, hl, fun j hj hh => hp j hj hh ?_, fun q hq => Ev.step (fun k => ?_) hq⟩
    · have := pos_mono r (j + 1) (r.length - (j + 1))
      rw [show j + 1 + (r.length - (j + 1)) = r.length by omega, pos_hit_len r j hh] at this
      omega
    · rw [spec_PackBody.l1, if_neg (by omega)]
  | succ n ih =>
    intro i pl hi hl hp
    obtain ⟨j0, b1, b2, b3, b4⟩ := pos_at r r.length i (by omega)
    obtain ⟨pl', c1, c2, c3⟩ := ih (i + 1) (pl.set j0 (i : Int)) (by omega) (by simpa using hl) (fun j hj hh hlt => by
      by_cases e : j = j0
      · subst e
        rw [L_set_self _ _ _ _ (by omega), b3]
      · rw [L_set_ne _ _ _ _ _ (by omega)]
        refine hp j hj hh ?_
        by_cases e2 : (pos r j).length = i
        · exact absurd (pos_inj r j j0 hh b2 (by omega)) e
        · omega)
    refine ⟨pl', c1, c2, fun q hq => Ev.step (fun k => ?_) (c3 q hq)⟩
    rw [spec_PackBody.l1, if_pos (by omega), if_pos (by omega), rd_nat, b4, if_pos (by omega), if_pos (by omega), w64_nat (by omega), Int.toNat_natCast]
theorem impl_placed (m : List S63) (r : List Bool) (hm : m.length ≤ 1048576) (hr : r.length = m.length) : ∀ (n i : Nat) (pl : List Int), i + n = m.length → pl.length = m.length → (∀ j, j < i → pl.getD j 0 = ((pos r j).length : Int)) →
    ∃ pl' : List Int, pl'.length = m.length ∧ (∀ j, j < m.length → pl'.getD j 0 = ((pos r j).length : Int)) ∧ ∀ q, Ev (fun k => impl_PackBody.l2 k r pl' [] m (m.length : Int) 0) q → Ev (fun k => impl_PackBody.l1 k m r pl ((pos r i).length : Int) (m.length : Int) i) q := by
  intro n
  induction n with
  | zero =>
    intro i pl hi hl hp
    refine ⟨pl, hl, fun j hj => hp j (by omega), fun q hq => Ev.step (fun k => ?_) hq⟩
    rw [impl_PackBody.l1, if_neg (by omega)]
  | succ n ih =>
    intro i pl hi hl hp
    have hpi := pos_len r i
    obtain ⟨pl', c1, c2, c3⟩ := ih (i + 1) (pl.set i ((pos r i).length : Int)) (by omega) (by simpa using hl) (fun j hj => by
      by_cases e : j = i
      · subst e
        rw [L_set_self _ _ _ _ (by omega)]
      · rw [L_set_ne _ _ _ _ _ (by omega)]
        exact hp j (by omega))
    refine ⟨pl', c1, c2, fun q hq => ?_⟩
    have h3 := c3 q hq
    have hrd : rdOf false r (i : Int) = r.getD i false := by unfold rdOf; rw [Int.toNat_natCast]
    by_cases c : r.getD i false = true
    · rw [pos_hit_len r i c] at h3
      refine Ev.step (fun k => ?_) h3
      rw [impl_PackBody.l1, if_pos (by omega), if_pos (by omega), if_pos (by omega)]
      simp only [Option.bind_some]
      rw [if_pos (by omega), if_pos (by rw [hrd]; exact c), w64_nat (by omega), w64_nat (by omega), Int.toNat_natCast]
    · rw [pos_miss r i c] at h3
      refine Ev.step (fun k => ?_) h3
      rw [impl_PackBody.l1, if_pos (by omega), if_pos (by omega), if_pos (by omega)]
      simp only [Option.bind_some]
      rw [if_pos (by omega), if_neg (by rw [hrd]; exact c), w64_nat (n := i) (by omega), Int.toNat_natCast]
theorem nxC_l (x y : Int) : x ∈ nxC x y := by
  unfold nxC
  split
  · exact List.mem_singleton.2 rfl
  · exact List.mem_cons_self ..
theorem nxC_r (x y : Int) : y ∈ nxC x y := by
  unfold nxC
  split
  · rename_i h
    exact List.mem_singleton.2 h.symm
  · exact List.mem_cons_of_mem _ (List.mem_singleton.2 rfl)
theorem nxt_self (op N m : Int) (h : op = 11 ∨ op = 12) : N ∈ nxt op N m := by
  unfold nxt
  rcases h with h | h
  · rw [if_neg (by omega), if_pos h]
    exact List.mem_singleton.2 rfl
  · rw [if_neg (by omega), if_neg (by omega), if_pos h]
    unfold nx2
    split
    · exact nxC_l _ _
    · exact nxC_r _ _
/-- A place with where it leads told anew. -/
def moved (pl : List Int) (x : S63) : S63 := if x.f0 = 11 ∨ x.f0 = 12 then ⟨x.f0, x.f1, x.f2, x.f3, rd pl x.f4⟩ else x
theorem ins_self (x : S63) : (⟨x.f0, x.f1, x.f2, x.f3, x.f4⟩ : S63) = x := rfl
theorem packed (m : List S63) (hg : BodyGood m 3) (r : List Bool) (hr : r.length = m.length) (hs : FlowShut m r) (p1 p2 : List Int) (l1 : p1.length = m.length) (l2 : p2.length = m.length)
    (h1 : ∀ j, j < m.length → r.getD j false = true → p1.getD j 0 = ((pos r j).length : Int)) (h2 : ∀ j, j < m.length → p2.getD j 0 = ((pos r j).length : Int)) :
    ∀ (n a : Nat) (out : List S63), a + n = m.length → out.length ≤ a → ∃ q : List S63, q.length ≤ m.length ∧ Ev (fun k => spec_PackBody.l2 k m (pos r r.length) p1 out ((pos r a).length : Int)) q ∧ Ev (fun k => impl_PackBody.l2 k r p2 out m (m.length : Int) a) q := by
  intro n
  have hlen := hg.2.1
  have hpl := pos_len r r.length
  induction n with
  | zero =>
    intro a out ha ho
    refine ⟨out, by omega, Ev.step (f := fun _ => some out) (fun k => ?_) (ev_some rfl), Ev.step (f := fun _ => some out) (fun k => ?_) (ev_some rfl)⟩
    · rw [spec_PackBody.l2, if_neg (by rw [show a = r.length by omega]; omega)]
    · rw [impl_PackBody.l2, if_neg (by omega)]
  | succ n ih =>
    intro a out ha ho
    have hrd : rdOf false r (a : Int) = r.getD a false := by unfold rdOf; rw [Int.toNat_natCast]
    by_cases c : r.getD a false = true
    · obtain ⟨q, q1, q2, q3⟩ := ih (a + 1) (out ++ [moved p1 (m.getD a z63)]) (by omega) (by simp; omega)
      have hmono := pos_mono r (a + 1) (r.length - (a + 1))
      rw [show a + 1 + (r.length - (a + 1)) = r.length by omega, pos_hit_len r a c] at hmono
      have hget := pos_get r a c (r.length - (a + 1))
      rw [show a + 1 + (r.length - (a + 1)) = r.length by omega] at hget
      have hpa := pos_len r a
      rw [pos_hit_len r a c] at q2
      have hj : (m.getD a z63).f0 = 11 ∨ (m.getD a z63).f0 = 12 → (0 ≤ (m.getD a z63).f4 ∧ (m.getD a z63).f4 < (m.length : Int)) ∧ rd p1 (m.getD a z63).f4 = rd p2 (m.getD a z63).f4 := by
        intro o
        have hin := nx_in m 3 (a : Int) hg (by omega)
        have hsh := hs (a : Int) (by omega) (by omega) (by unfold Hit; rw [Int.toNat_natCast]; exact c)
        have hmem : (m.getD a z63).f4 ∈ nx m (a : Int) := by
          unfold nx
          rw [rdIns_nat]
          exact nxt_self _ _ _ o
        have g1 := hin _ hmem
        have g2 := hsh _ hmem
        refine ⟨g1, ?_⟩
        unfold Hit at g2
        unfold rd
        rw [h1 _ (by omega) g2, h2 _ (by omega)]
      refine ⟨q, q1, Ev.step (fun k => by rw [spec_PackBody.l2]) ?_, Ev.step (fun k => by rw [impl_PackBody.l2]) ?_⟩
      · rw [rd_nat, hget, rdIns_nat, w64_nat (by omega)]
        refine ev_pos (by omega) (ev_pos (by omega) (ev_pos (by omega) (ev_pos (by omega) ?_)))
        unfold moved at q2
        by_cases o1 : (m.getD a z63).f0 = 11
        · have hj := hj (.inl o1)
          rw [if_pos (.inl o1)] at q2
          exact ev_pos o1 (ev_pos hj.1.1 (ev_pos (by omega) (ev_pos (by omega) q2)))
        · by_cases o2 : (m.getD a z63).f0 = 12
          · have hj := hj (.inr o2)
            rw [if_pos (.inr o2)] at q2
            exact ev_neg o1 (ev_pos o2 (ev_pos hj.1.1 (ev_pos (by omega) (ev_pos (by omega) q2))))
          · rw [if_neg (by omega)] at q2
            exact ev_neg o1 (ev_neg o2 (ev_pos (by omega) q2))
      · rw [rdIns_nat, w64_nat (by omega)]
        refine ev_pos (by omega) (ev_pos (by omega) (ev_pos (by omega) (ev_pos (by omega) (ev_pos (by rw [hrd]; exact c) ?_))))
        unfold moved at q3
        by_cases o1 : (m.getD a z63).f0 = 11
        · have hj := hj (.inl o1)
          rw [if_pos (.inl o1), hj.2] at q3
          exact ev_pos o1 (ev_pos hj.1.1 (ev_pos (by omega) (ev_pos (by omega) q3)))
        · by_cases o2 : (m.getD a z63).f0 = 12
          · have hj := hj (.inr o2)
            rw [if_pos (.inr o2), hj.2] at q3
            exact ev_neg o1 (ev_pos o2 (ev_pos hj.1.1 (ev_pos (by omega) (ev_pos (by omega) q3))))
          · rw [if_neg (by omega)] at q3
            exact ev_neg o1 (ev_neg o2 (ev_pos (by omega) q3))
    · obtain ⟨q, q1, q2, q3⟩ := ih (a + 1) out (by omega) (by omega)
      rw [pos_miss r a c] at q2
      refine ⟨q, q1, q2, Ev.step (fun k => by rw [impl_PackBody.l2]) ?_⟩
      rw [w64_nat (by omega)]
      exact ev_pos (by omega) (ev_pos (by omega) (ev_pos (by omega) (ev_pos (by omega) (ev_neg (by rw [hrd]; exact c) q3))))
/-- What is done once all is skipped. -/
def specRest (k : Nat) (x3 : List S63) : Option (List S63) := (spec_ReachOf.f k x3 0).bind fun t => (if 0 ≤ (x3.length : Int) then (if ((x3.length : Int) : Int).toNat ≤ 35184372088832 then (spec_PackBody.l1 k x3 t (List.replicate ((x3.length : Int) : Int).toNat 0) 0) else (none)) else (none))
def implRest (k : Nat) (x0 x3 : List S63) : Option (List S63) := (impl_reached.f k x3 (([0] : List Int))).bind fun t => (if 0 ≤ (x0.length : Int) then (if ((x0.length : Int) : Int).toNat ≤ 35184372088832 then (impl_PackBody.l1 k x3 t (List.replicate ((x0.length : Int) : Int).toNat 0) 0 (x0.length : Int) 0) else (none)) else (none))
theorem reach0 (m : List S63) (hg : BodyGood m 3) (r : List Bool) (hr : r.length = m.length) (h : Ev (fun k => spec_l18Marks.f k m [0]) r) : Ev (fun k => spec_ReachOf.f k m 0) (pos r r.length) := by
  have hlen := hg.2.1
  obtain ⟨b, h1, h2, h3⟩ := body_both m 3 (by omega)
  obtain rfl := h3.2 hg
  have hw : wrap64 ((m.length : Int) - 1) = (m.length : Int) - 1 := w64 (by omega) (by omega)
  unfold spec_ReachOf.f
  simp only [in_eq, hw]
  refine Ev.bind h1 (ev_pos rfl (ev_bind0 rfl ?_))
  rw [decide_eq_true (show (0 : Int) ≤ 0 ∧ (0 : Int) ≤ (m.length : Int) - 1 by omega)]
  exact Ev.step (fun k => by rw [spec_ReachOf.j0]) (ev_neg (by decide) (Ev.bind h (Ev.bind (spec_pos r (by omega) r.length 0 (by omega)) (ev_some rfl))))
theorem rest_both (l m : List S63) (hl : m.length = l.length) (hg : BodyGood m 3) : ∃ q : List S63, q.length ≤ m.length ∧ Ev (fun k => specRest k m) q ∧ Ev (fun k => implRest k l m) q := by
  have hlen := hg.2.1
  obtain ⟨r, hr, m1, m2, m3, m4⟩ := reach_both2 m hg [0] (fun y hy => by simp at hy; subst hy; omega) (by simp)
  have hpl := pos_len r r.length
  obtain ⟨p1, a1, a2, a3⟩ := spec_placed m r (by omega) hr (pos r r.length).length 0 (List.replicate m.length 0) (by omega) (by simp) (fun j _ _ h => absurd h (Nat.not_lt_zero _))
  obtain ⟨p2, b1, b2, b3⟩ := impl_placed m r (by omega) hr m.length 0 (List.replicate m.length 0) (by omega) (by simp) (fun j h => absurd h (Nat.not_lt_zero _))
  obtain ⟨q, q1, q2, q3⟩ := packed m hg r hr m4 p1 p2 a1 b1 a2 b2 m.length 0 [] (by omega) (by simp)
  refine ⟨q, q1, ?_, ?_⟩
  · unfold specRest
    rw [Int.toNat_natCast]
    exact Ev.bind (reach0 m hg r hr m1) (ev_pos (by omega) (ev_pos (by omega) (a3 q q2)))
  · unfold implRest
    rw [Int.toNat_natCast, ← hl]
    exact Ev.bind m2 (ev_pos (by omega) (ev_pos (by omega) (b3 q q3)))
theorem skip_all (l : List S63) (hg : BodyGood l 3) : ∀ (n i : Nat) (m : List S63), i + n = l.length → Skipped l m i → ∃ q : List S63, q.length ≤ l.length ∧ Ev (fun k => spec_PackBody.l0 k l m i) q ∧ Ev (fun k => impl_PackBody.l0 k l m l (l.length : Int) i) q := by
  intro n
  have hlen := hg.2.1
  induction n with
  | zero =>
    intro i m hi hs
    have e : i = l.length := by omega
    subst e
    obtain ⟨q, q1, q2, q3⟩ := rest_both l m hs.1 (skipped_good l m hs hg)
    have hml := hs.1
    refine ⟨q, by omega, Ev.step (f := fun k => specRest k m) (fun k => ?_) q2, Ev.step (f := fun k => implRest k l m) (fun k => ?_) q3⟩
    · rw [spec_PackBody.l0, if_neg (by omega)]
      rfl
    · rw [impl_PackBody.l0, if_neg (by omega)]
      rfl
  | succ n ih =>
    intro i m hi hs
    have hml := hs.1
    have hmi : m.getD i z63 = l.getD i z63 := hs.2.1 i (Nat.le_refl _)
    by_cases ho : (l.getD i z63).f0 = 11 ∨ (l.getD i z63).f0 = 12
    · have hn : 0 ≤ (l.getD i z63).f4 ∧ (l.getD i z63).f4 < (l.length : Int) := by
        have h5 := (hg.2.2.1 i (by omega)).2.2.2.2
        omega
      obtain ⟨a, ha⟩ : ∃ a : Nat, (l.getD i z63).f4 = (a : Int) := ⟨(l.getD i z63).f4.toNat, by omega⟩
      obtain ⟨r, r1, r2, r3⟩ := skip_good l hg a (by omega)
      rw [← ha] at r1 r2
      obtain ⟨q, q1, q2, q3⟩ := ih (i + 1) _ (by omega) (skipped_set l m i r hs (by omega) ho r3)
      refine ⟨q, q1, Ev.step (fun k => by rw [spec_PackBody.l0]) ?_, Ev.step (fun k => by rw [impl_PackBody.l0]) ?_⟩
      · rw [rdIns_nat, hmi, rdIns_nat, w64_nat (by omega), Int.toNat_natCast]
        refine ev_pos (by omega) (ev_pos (by omega) ?_)
        by_cases o1 : (l.getD i z63).f0 = 11
        · exact ev_pos o1 (ev_pos (by omega) (Ev.bind r1 q2))
        · exact ev_neg o1 (ev_pos (by omega) (ev_pos (by omega) (Ev.bind r1 q2)))
      · rw [rdIns_nat, rdIns_nat, hmi, w64_nat (by omega), Int.toNat_natCast]
        refine ev_pos (by omega) (ev_pos (by omega) (ev_pos (by omega) ?_))
        by_cases o1 : (l.getD i z63).f0 = 11
        · exact ev_pos o1 (Ev.bind r2 (ev_pos (by omega) q3))
        · exact ev_neg o1 (ev_pos (by omega) (Ev.bind r2 (ev_pos (by omega) q3)))
    · obtain ⟨q, q1, q2, q3⟩ := ih (i + 1) m (by omega) (skipped_keep l m i hs ho)
      refine ⟨q, q1, Ev.step (fun k => by rw [spec_PackBody.l0]) ?_, Ev.step (fun k => by rw [impl_PackBody.l0]) ?_⟩
      · rw [rdIns_nat, hmi, w64_nat (by omega)]
        exact ev_pos (by omega) (ev_pos (by omega) (ev_neg (by omega) (ev_neg (by omega) q2)))
      · rw [rdIns_nat, w64_nat (by omega)]
        exact ev_pos (by omega) (ev_pos (by omega) (ev_pos (by omega) (ev_neg (by omega) (ev_neg (by omega) q3))))
theorem packBody_both (l : List S63) (hl : l.length ≤ 1048576) : ∃ q : List S63, q.length ≤ 1048576 ∧ Ev (fun k => spec_PackBody.f k l) q ∧ Ev (fun k => impl_PackBody.f k l) q := by
  obtain ⟨b, h1, h2, h3⟩ := body_both l 3 hl
  have hc : impl_copyBody.f l = some l := by
    unfold impl_copyBody.f
    simp only [Option.bind_some, List.nil_append]
    rw [if_pos (by simp; omega)]
  unfold spec_PackBody.f impl_PackBody.f
  cases b with
  | false =>
    refine ⟨l, hl, ev_bind0 rfl (ev_pos (by simp; omega) (ev_bind0 (x := l) rfl (Ev.bind h1 (ev_neg (by decide) (ev_some rfl))))), Ev.bind h2 (ev_neg (by decide) (ev_bind0 hc (ev_some rfl)))⟩
  | true =>
    have hg := h3.1 rfl
    obtain ⟨q, q1, q2, q3⟩ := skip_all l hg l.length 0 l (by omega) ⟨rfl, fun _ _ => rfl, fun j h => absurd h (Nat.not_lt_zero _)⟩
    exact ⟨q, by omega, ev_bind0 rfl (ev_pos (by simp; omega) (ev_bind0 (x := l) rfl (Ev.bind h1 (ev_pos rfl q2)))), Ev.bind h2 (ev_pos rfl (ev_bind0 hc q3))⟩
end Go.Proofs.Ytocimkpafakiaaa.CorePackFnExactPackProg
