/- The cursor of the draws: at every state it goes on, and what it tells lies in its bounds; for all bytes of up to a million. -/
import Derived.Test.YtonlhgkpmjefkaaXFnEmittedx20
import Derived.Test.YtonlhgkpmjefkaaLib
namespace Go.Proofs.Ytonlhgkpmjefkaa.CoreDrawFnEmitted
open Go.RowKit Go.Proofs.Ytonlhgkpmjefkaa.XFnEmitted Go.Proofs.Ytonlhgkpmjefkaa.Lib Go.Proofs.YtonlhgkpmjefkaaW.PrintWords Go.Proofs.YtonlhgkpmjefkaaW.PrintLast Go.Proofs.YtonlhgkpmjefkaaW.PrintMore
set_option linter.unusedVariables false
set_option linter.unusedSimpArgs false

theorem and255 (x : Int) : 0 ≤ Go.bits .and .i64 x 255 ∧ Go.bits .and .i64 x 255 ≤ 255 := by
  have h : (BitVec.ofInt 64 x &&& BitVec.ofInt 64 255).toNat ≤ 255 := by
    rw [BitVec.toNat_and]
    exact Nat.and_le_right
  have e : Go.bits .and .i64 x 255 = IntKind.i64.wrap (((BitVec.ofInt 64 x &&& BitVec.ofInt 64 255).toNat : Nat) : Int) := rfl
  rw [e, IntKind.wrap_i64]
  omega
/-- A cursor's place. -/
def DS (b : List Int) (i : Int) : Prop := 0 ≤ i ∧ i ≤ (b.length : Int) ∧ b.length ≤ 1048576
theorem byte_ok (b : List Int) (i h : Int) (hd : DS b i) : ∃ x i' h', spec_l1Byte.f b i h = some (x, i', h') ∧ 0 ≤ x ∧ x ≤ 255 ∧ DS b i' := by
  unfold spec_l1Byte.f
  have := hd.1
  have := hd.2.1
  have := hd.2.2
  by_cases c : i < (b.length : Int)
  · rw [if_pos c, if_pos hd.1]
    refine ⟨_, _, _, rfl, (and255 _).1, (and255 _).2, ?_, ?_, hd.2.2⟩
    · rw [w64 (by omega) (by omega)]; omega
    · rw [w64 (by omega) (by omega)]; omega
  · rw [if_neg c]
    exact ⟨_, _, _, rfl, (and255 _).1, (and255 _).2, hd⟩
theorem below_ok (b : List Int) (i h n : Int) (hd : DS b i) : ∃ x i' h', spec_l1Below.f b i h n = some (x, i', h') ∧ 0 ≤ x ∧ (0 < n → x < n) ∧ (n ≤ 0 → x = 0) ∧ DS b i' := by
  unfold spec_l1Below.f
  by_cases c : n ≤ 0
  · rw [if_pos c]
    exact ⟨0, i, h, rfl, Int.le_refl _, fun h => by omega, fun _ => rfl, hd⟩
  rw [if_neg c]
  have tm : ∀ y : Int, 0 ≤ y → 0 ≤ Int.tmod y n ∧ Int.tmod y n < n := fun y hy => ⟨Int.tmod_nonneg _ hy, Int.tmod_lt_of_pos _ (by omega)⟩
  obtain ⟨x1, i1, h1, e1, a1, b1, d1⟩ := byte_ok b i h hd
  by_cases c2 : n ≤ 256
  · rw [if_pos c2, e1]
    simp only [Option.bind_some]
    rw [if_neg (by omega)]
    exact ⟨_, _, _, rfl, (tm x1 a1).1, fun _ => (tm x1 a1).2, fun h => absurd h c, d1⟩
  · obtain ⟨x2, i2, h2, e2, a2, b2, d2⟩ := byte_ok b i1 h1 d1
    obtain ⟨x3, i3, h3, e3, a3, b3, d3⟩ := byte_ok b i2 h2 d2
    obtain ⟨x4, i4, h4, e4, a4, b4, d4⟩ := byte_ok b i3 h3 d3
    rw [if_neg c2, e1]
    simp only [Option.bind_some]
    rw [e2]
    simp only [Option.bind_some]
    rw [e3]
    simp only [Option.bind_some]
    rw [e4]
    simp only [Option.bind_some]
    rw [if_neg (by omega)]
    have hs : 0 ≤ wrap64 (wrap64 (wrap64 (wrap64 (x1 * 16777216) + wrap64 (x2 * 65536)) + wrap64 (x3 * 256)) + x4) := by
      rw [w64 (x := x1 * 16777216) (by omega) (by omega), w64 (x := x2 * 65536) (by omega) (by omega), w64 (x := x3 * 256) (by omega) (by omega), w64 (x := x1 * 16777216 + x2 * 65536) (by omega) (by omega), w64 (x := x1 * 16777216 + x2 * 65536 + x3 * 256) (by omega) (by omega), w64 (by omega) (by omega)]
      omega
    exact ⟨_, _, _, rfl, (tm _ hs).1, fun _ => (tm _ hs).2, fun h => absurd h c, d4⟩
theorem pick_ok (b : List Int) (i h : Int) (l : List Int) (hl : 0 < l.length) (hd : DS b i) : ∃ x i' h', spec_l1PickInt.f b i h l = some (x, i', h') ∧ DS b i' ∧ x ∈ l := by
  obtain ⟨x, i', h', e, a, c, _, d⟩ := below_ok b i h (l.length : Int) hd
  have c' := c (by omega)
  unfold spec_l1PickInt.f
  rw [e]
  simp only [Option.bind_some]
  rw [if_pos a, if_pos c']
  refine ⟨_, _, _, rfl, d, ?_⟩
  unfold rd
  rw [List.getD_eq_getElem?_getD, List.getElem?_eq_getElem (show x.toNat < l.length by omega)]
  exact List.getElem_mem _
theorem new_l (b : List Int) (hb : b.length ≤ 1048576) : ∀ (n i : Nat) (h : Int), i + n = b.length → ∃ h', Ev (fun k => spec_l1New.l0 k b h i) (b, 0, h') := by
  intro n
  induction n with
  | zero =>
    intro i h hi
    refine ⟨h, Ev.step (f := fun _ => some (b, 0, h)) (fun k => ?_) (ev_some rfl)⟩
    rw [spec_l1New.l0, if_neg (by omega)]
  | succ n ih =>
    intro i h hi
    by_cases c : (i : Int) < 4000
    · obtain ⟨h', e⟩ := ih (i + 1) (Go.bits .and .i64 (wrap64 ((wrap64 ((wrap64 (h * 131)) + (wrap64 (rd b (i : Int))))) + 7)) 1073741823) (by omega)
      refine ⟨h', Ev.step (fun k => ?_) e⟩
      rw [spec_l1New.l0, if_pos (by omega), if_pos c, if_pos (by omega), w64_nat (by omega)]
    · refine ⟨h, Ev.step (f := fun _ => some (b, 0, h)) (fun k => ?_) (ev_some rfl)⟩
      rw [spec_l1New.l0, if_pos (by omega), if_neg c]
theorem new_ok (b : List Int) (hb : b.length ≤ 1048576) : ∃ h', Ev (fun k => spec_l1New.f k b) (b, 0, h') ∧ DS b 0 := by
  obtain ⟨h', e⟩ := new_l b hb b.length 0 (wrap64 (18813 + (b.length : Int))) (by omega)
  exact ⟨h', e, Int.le_refl _, by omega, hb⟩
end Go.Proofs.Ytonlhgkpmjefkaa.CoreDrawFnEmitted
