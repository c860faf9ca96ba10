/- The places that are told as marked or not marked, ascending, alike by the program and the reference; for all rows of up to a million. -/
import Derived.Test.YtocimkpafakiaaaXFnFlowsx14
import Derived.Test.YtocimkpafakiaaaCoreFlowFnFlows
namespace Go.Proofs.Ytocimkpafakiaaa.CoreWhereFnFlows
open Go.RowKit Go.Proofs.Ytocimkpafakiaaa.XFnFlows Go.Proofs.Ytocimkpafakiaaa.Lib Go.Proofs.Ytocimkpafakiaaa.CoreInsFnFlows Go.Proofs.Ytocimkpafakiaaa.CoreBodyFnFlows Go.Proofs.Ytocimkpafakiaaa.CoreFlowFnFlows Go.Proofs.YtocimkpafakiaaaW.PrintWords Go.Proofs.YtocimkpafakiaaaW.PrintLast Go.Proofs.YtocimkpafakiaaaW.PrintMore
set_option linter.unusedVariables false
set_option linter.unusedSimpArgs false

/-- The places below n whose mark is b, ascending. -/
def wh (r : List Bool) (b : Bool) : Nat → List Int
  | 0 => []
  | n + 1 => if (r.getD n false == b) = true then wh r b n ++ [(n : Int)] else wh r b n
theorem wh_hit (r : List Bool) (b : Bool) (n : Nat) (h : (r.getD n false == b) = true) : wh r b (n + 1) = wh r b n ++ [(n : Int)] := if_pos h
theorem wh_miss (r : List Bool) (b : Bool) (n : Nat) (h : ¬ (r.getD n false == b) = true) : wh r b (n + 1) = wh r b n := if_neg h
theorem wh_len (r : List Bool) (b : Bool) (n : Nat) : (wh r b n).length ≤ n := by
  induction n with
  | zero => exact Nat.le_refl _
  | succ n ih =>
    by_cases h : (r.getD n false == b) = true
    · rw [wh_hit r b n h, List.length_append]
      simp
      omega
    · rw [wh_miss r b n h]
      omega
theorem wh_mem (r : List Bool) (b : Bool) (n : Nat) (y : Int) : y ∈ wh r b n ↔ ∃ j : Nat, y = (j : Int) ∧ j < n ∧ r.getD j false = b := by
  induction n with
  | zero =>
    refine ⟨fun h => (by cases h), fun ⟨j, _, h, _⟩ => absurd h (Nat.not_lt_zero _)⟩
  | succ n ih =>
    by_cases h : (r.getD n false == b) = true
    · rw [wh_hit r b n h, List.mem_append, List.mem_singleton, ih]
      constructor
      · rintro (⟨j, h1, h2, h3⟩ | h1)
        · exact ⟨j, h1, by omega, h3⟩
        · exact ⟨n, h1, by omega, by simpa using h⟩
      · rintro ⟨j, h1, h2, h3⟩
        by_cases e : j = n
        · exact .inr (e ▸ h1)
        · exact .inl ⟨j, h1, by omega, h3⟩
    · rw [wh_miss r b n h, ih]
      constructor
      · rintro ⟨j, h1, h2, h3⟩
        exact ⟨j, h1, by omega, h3⟩
      · rintro ⟨j, h1, h2, h3⟩
        by_cases e : j = n
        · subst e
          exact absurd (by rw [h3]; simp) h
        · exact ⟨j, h1, by omega, h3⟩
theorem wh_count (r : List Bool) (n : Nat) : (wh r true n).length + (wh r false n).length = n := by
  induction n with
  | zero => rfl
  | succ n ih =>
    cases h : r.getD n false with
    | true =>
      rw [wh_hit r true n (by rw [h]; rfl), wh_miss r false n (by rw [h]; decide), List.length_append, List.length_singleton]
      omega
    | false =>
      rw [wh_miss r true n (by rw [h]; decide), wh_hit r false n (by rw [h]; rfl), List.length_append, List.length_singleton]
      omega
theorem wh_l (r : List Bool) (b : Bool) (hr : r.length ≤ 1048576) : ∀ (n i : Nat), i + n = r.length → Ev (fun k => spec_l18Places.l0 k r b (wh r b i) i) (wh r b r.length) ∧ Ev (fun k => impl_whereTrue.l0 k b (wh r b i) r (r.length : Int) i) (wh r b r.length) := by
  intro n
  induction n with
  | zero =>
    intro i hi
    refine ⟨Ev.step (f := fun _ => some (wh r b r.length)) (fun k => ?_) (ev_some rfl), Ev.step (f := fun _ => some (wh r b r.length)) (fun k => ?_) (ev_some rfl)⟩
    · rw [spec_l18Places.l0, if_neg (by omega), show i = r.length by omega]
    · rw [impl_whereTrue.l0, if_neg (by omega), show i = r.length by omega]
  | succ n ih =>
    intro i hi
    have hp := wh_len r b i
    have hrd : rdOf false r (i : Int) = r.getD i false := by unfold rdOf; rw [Int.toNat_natCast]
    obtain ⟨h2, h3⟩ := ih (i + 1) (by omega)
    by_cases c : (r.getD i false == b) = true
    · rw [wh_hit r b i c] at h2 h3
      refine ⟨Ev.step (fun k => ?_) h2, Ev.step (fun k => ?_) h3⟩
      · rw [spec_l18Places.l0, if_pos (by omega), if_pos (by omega), if_pos (by rw [hrd]; exact c), if_pos (by omega), w64_nat (by omega)]
      · rw [impl_whereTrue.l0, if_pos (by omega), if_pos (by omega), if_pos (by omega), if_pos (by rw [hrd]; exact c), if_pos (by omega), w64_nat (by omega)]
    · rw [wh_miss r b i c] at h2 h3
      refine ⟨Ev.step (fun k => ?_) h2, Ev.step (fun k => ?_) h3⟩
      · rw [spec_l18Places.l0, if_pos (by omega), if_pos (by omega), if_neg (by rw [hrd]; exact c), w64_nat (by omega)]
      · rw [impl_whereTrue.l0, if_pos (by omega), if_pos (by omega), if_pos (by omega), if_neg (by rw [hrd]; exact c), w64_nat (by omega)]
theorem where_both (r : List Bool) (b : Bool) (hr : r.length ≤ 1048576) : Ev (fun k => spec_l18Places.f k r b) (wh r b r.length) ∧ Ev (fun k => impl_whereTrue.f k r b) (wh r b r.length) :=
  wh_l r b hr r.length 0 (by omega)
end Go.Proofs.Ytocimkpafakiaaa.CoreWhereFnFlows
