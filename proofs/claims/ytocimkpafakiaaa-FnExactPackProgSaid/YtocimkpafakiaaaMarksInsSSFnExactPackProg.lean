/- What a mark of rows of places, of a program leaves, and that it is found so again; for all of up to a million rows of up to a million. -/
import Derived.Test.YtocimkpafakiaaaWalkFnExactPackProg
import Derived.Test.YtocimkpafakiaaaMarksIntFnExactPackProg
import Derived.Test.YtocimkpafakiaaaMarksInsFnExactPackProg
namespace Go.Proofs.Ytocimkpafakiaaa.MarksInsSSFnExactPackProg
open Go.RowKit Go.Proofs.Ytocimkpafakiaaa.XFnExactPackProg Go.Proofs.Ytocimkpafakiaaa.Lib Go.Proofs.Ytocimkpafakiaaa.MarksIntFnExactPackProg Go.Proofs.Ytocimkpafakiaaa.MarksInsFnExactPackProg Go.Proofs.YtocimkpafakiaaaW.PrintWords Go.Proofs.YtocimkpafakiaaaW.PrintLast Go.Proofs.YtocimkpafakiaaaW.PrintMore
set_option linter.unusedVariables false
set_option linter.unusedSimpArgs false

def tot : List (List S63) → Int
  | [] => 0
  | y :: r => 5 * (y.length : Int) + tot r
theorem tot_le (r : List (List S63)) (h : ∀ y ∈ r, y.length ≤ 1048576) : 0 ≤ tot r ∧ tot r ≤ 5242880 * (r.length : Int) := by
  induction r with
  | nil => exact ⟨Int.le_refl _, Int.le_refl _⟩
  | cons y r ih =>
    have h1 := h y (by simp)
    have h2 := ih (fun z hz => h z (List.mem_cons_of_mem _ hz))
    simp only [tot, List.length_cons]
    omega
theorem getD_mid (pre rest : List (List S63)) (y : List S63) : (pre ++ y :: rest).getD pre.length [] = y := by
  rw [List.getD_eq_getElem?_getD, List.getElem?_append_right (Nat.le_refl _), Nat.sub_self]
  rfl
theorem set_mid (pre rest : List (List S63)) (y z : List S63) : (pre ++ y :: rest).set pre.length z = (pre ++ [z]) ++ rest := by
  rw [List.set_append_right _ _ (Nat.le_refl _), Nat.sub_self]
  simp
theorem marks_l : ∀ (rest pre : List (List S63)) (v : Int), pre.length + rest.length ≤ 1048576 → (∀ y ∈ rest, y.length ≤ 1048576) → 0 ≤ v → v ≤ 2097152 + 5242880 * (pre.length : Int) →
    ∃ zs : List (List S63), Ev (fun k => laws_markInsSS.l0 k (pre ++ rest) v (pre.length : Int)) (v + tot rest, pre ++ zs) ∧ ∀ pre' : List (List S63), pre'.length = pre.length → Ev (fun k => laws_heldInsSS.l0 k (pre' ++ zs) v (pre'.length : Int)) (v + tot rest) := by
  intro rest
  induction rest with
  | nil =>
    intro pre v hl hy h0 hv
    refine ⟨[], Ev.step (f := fun _ => some (v + tot [], pre ++ [])) (fun k => ?_) (ev_some rfl), fun pre' hp => Ev.step (f := fun _ => some (v + tot [])) (fun k => ?_) (ev_some rfl)⟩
    · rw [laws_markInsSS.l0, if_neg (by simp)]
      simp [tot]
    · rw [laws_heldInsSS.l0, if_neg (by simp)]
      simp [tot]
  | cons y rest ih =>
    intro pre v hl hy h0 hv
    simp only [List.length_cons] at hl
    have h4 := hy y (by simp)
    obtain ⟨ys, m1, m2, m3⟩ := markIns_ev v h0 (by omega) y (by omega)
    have hh := heldIns_ev v h0 (by omega) ys (by omega) m3
    rw [m2] at hh
    obtain ⟨zs, g1, g2⟩ := ih (pre ++ [ys]) (v + 5 * (y.length : Int)) (by simp; omega) (fun z hz => hy z (List.mem_cons_of_mem _ hz)) (by omega) (by simp; omega)
    have e : v + tot (y :: rest) = v + 5 * (y.length : Int) + tot rest := by simp only [tot]; omega
    refine ⟨ys :: zs, ?_, fun pre' hp => ?_⟩
    · refine Ev.step (fun k => by rw [laws_markInsSS.l0, if_pos (by simp; omega), if_pos (by omega), Int.toNat_natCast, getD_mid]) ?_
      refine Ev.bind m1 ?_
      rw [w64_nat (by omega), e]
      show Ev (fun n => laws_markInsSS.l0 n ((pre ++ y :: rest).set pre.length ys) (v + 5 * (y.length : Int)) ((pre.length + 1 : Nat) : Int)) _
      rw [set_mid]
      have g3 := g1
      rw [List.length_append, List.length_singleton, List.append_assoc pre [ys] zs] at g3
      exact g3
    · refine Ev.step (fun k => by rw [laws_heldInsSS.l0, if_pos (by simp; omega), if_pos (by omega)]) ?_
      have r : rd_L5 (pre' ++ ys :: zs) (pre'.length : Int) = ys := by
        unfold rd_L5
        rw [Int.toNat_natCast, getD_mid]
      rw [r]
      refine Ev.bind hh (ev_neg (by omega) ?_)
      rw [w64_nat (by omega), e]
      have g3 := g2 (pre' ++ [ys]) (by simp [hp])
      rw [List.length_append, List.length_singleton, List.append_assoc] at g3
      exact g3
theorem marksProg_ev (c : List Int) (q : List (List S63)) (hc : c.length ≤ 1048576) (hl : q.length ≤ 1048576) (hy : ∀ y ∈ q, y.length ≤ 1048576) : ∃ (m : Int) (q1 : List Int) (q2 : List (List S63)), 0 ≤ m ∧ Ev (fun k => laws_markProg.f k c q 1) (m, q1, q2) ∧ Ev (fun k => laws_heldProg.f k q1 q2 1) m := by
  obtain ⟨ys, m1, m2, m3⟩ := markInts_ev 1 (by omega) (by omega) c (by omega)
  have hh := heldInts_ev 1 (by omega) (by omega) ys (by omega) m3
  rw [m2] at hh
  obtain ⟨zs, h1, h2⟩ := marks_l q [] (1 + (c.length : Int)) (by simpa using hl) hy (by omega) (by simp; omega)
  have ht := tot_le q hy
  refine ⟨1 + (c.length : Int) + tot q, ys, zs, by omega, ?_, ?_⟩
  · unfold laws_markProg.f laws_markInsSS.f
    exact Ev.bind m1 (Ev.bind h1 (ev_some rfl))
  · unfold laws_heldProg.f laws_heldInsSS.f
    exact Ev.bind hh (ev_neg (by omega) (Ev.bind (h2 [] rfl) (ev_neg (by omega) (ev_some rfl))))
end Go.Proofs.Ytocimkpafakiaaa.MarksInsSSFnExactPackProg
