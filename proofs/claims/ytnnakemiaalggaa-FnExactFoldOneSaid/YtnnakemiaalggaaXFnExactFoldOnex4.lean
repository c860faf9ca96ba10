/- Each Go function that the law reaches as a Lean function, and that Go comes to just its answer; written by this session's xprint.py over the kit's printer. -/
import Derived.Test.YtnnakemiaalggaaXFnExactFoldOnex0
import Derived.Test.YtnnakemiaalggaaXFnExactFoldOnex3
namespace Go.Proofs.Ytnnakemiaalggaa.XFnExactFoldOne
open Go.RowKit Go.Proofs.YtnnakemiaalggaaW.PrintWords Go.Proofs.YtnnakemiaalggaaW.PrintLast Go.Proofs.YtnnakemiaalggaaW.PrintMore
attribute [local go_sem] max2_int min2_int max_two min_two max_three min_three max_four min_four   -- for this text's walks alone
set_option linter.unusedVariables false
set_option linter.unusedSimpArgs false

/-! ### impl_FoldOne: function 54 -/
theorem fo_isReg (a : Int) (b : Bool) (hb : b = decide (0 ≤ a ∧ a ≤ 3)) (w : World) : Calls Try.prog 76 #[.int .i64 a] w fun e w' => e = .returned (.bool b) ∧ Drawn0 w w' := by
 subst hb
 refine impl_isReg.calls a _ w ?_
 simp only [impl_isReg.f, impl_within.f]
 by_cases h : a ≥ 0
 ·have h' : 0 ≤ a := h
  simp [h']
 ·have h' : ¬ 0 ≤ a := h
  simp [h']
theorem fo_within (v : Int) (b : Bool) (hb : b = decide (-1000000000 ≤ v ∧ v ≤ 1000000000)) (w : World) : Calls Try.prog 58 #[.int .i64 v, .int .i64 (-1000000000), .int .i64 1000000000] w fun e w' => e = .returned (.bool b) ∧ Drawn0 w w' := by
 subst hb
 refine impl_within.calls v _ _ _ w ?_
 simp only [impl_within.f]
 by_cases h : v ≥ -1000000000
 ·have h' : -1000000000 ≤ v := h
  simp [h']
 ·have h' : ¬ -1000000000 ≤ v := h
  simp [h']
def foComp (op a b : Int) : Int := if op = 2 then wrap64 (a + b) else (if op = 3 then wrap64 (a - b) else (if a < b then 1 else 0))
theorem fo_comp (op a b : Int) (w : World) : Calls Try.prog 77 #[.int .i64 op, .int .i64 a, .int .i64 b] w fun e w' => e = .returned (.int .i64 (foComp op a b)) ∧ Drawn0 w w' := by
 refine impl_compute.calls op a b _ w ?_
 simp only [impl_compute.f, foComp, impl_number.f]
 by_cases h : op = 2
 ·simp [h]
 by_cases h3 : op = 3
 ·simp [h3]
 by_cases h4 : a < b <;> simp [h, h3, h4]
set_option maxHeartbeats 4000000 in
set_option maxRecDepth 100000 in
theorem fo_t1 (a0_0 a0_1 a0_2 a0_3 a0_4 : Int) (A1 : Option Addr) (c1 : Nat) (l1 : List S87) (a2 : Int) (w : World) (hl : ¬ (l1.length : Int) = 4) :
  Calls Try.prog 54 #[.agg #[.int .i64 a0_0, .int .i64 a0_1, .int .i64 a0_2, .int .i64 a0_3, .int .i64 a0_4], .slice A1 l1.length c1, .int .i64 a2] w fun e w' => e = .returned (.agg #[.int .i64 a0_0, .int .i64 a0_1, .int .i64 a0_2, .int .i64 a0_3, .int .i64 a0_4]) ∧ Below w.heap.size w w' := by
 have hu35 := Try.underlying35
 have hu87 := Try.underlying87
 have c7b0 : ((l1.length : Int) == 4) = false := beq_eq_false_iff_ne.mpr hl
 have c7b1 : ((l1.length : Int) != 4) = true := bne_iff_ne.mpr hl
 clear hl
 go_enter Try.func54, Try.ntmps54
 go_wp2
 exact bodyPost_ret (v := .agg #[_, _, _, _, _]) (by simp [results, Try.results54, go_sem]) rfl ⟨rfl, by repeat (first | (with_reducible first | exact Below.refl _ _ | apply below_alloc | apply pw_below_drewN | apply below_drew1) | (with_reducible refine below_set ?_ (by first | exact Nat.le_add_right _ _ | exact Nat.le_refl _ | (simp; omega))))⟩
set_option maxHeartbeats 4000000 in
set_option maxRecDepth 100000 in
theorem fo_t2 (a0_0 a0_1 a0_2 a0_3 a0_4 : Int) (A1 : Option Addr) (c1 : Nat) (l1 : List S87) (a2 : Int) (w : World) (hl : (l1.length : Int) = 4) (hA : ¬ (0 ≤ a0_2 ∧ a0_2 ≤ 3)) :
  Calls Try.prog 54 #[.agg #[.int .i64 a0_0, .int .i64 a0_1, .int .i64 a0_2, .int .i64 a0_3, .int .i64 a0_4], .slice A1 l1.length c1, .int .i64 a2] w fun e w' => e = .returned (.agg #[.int .i64 a0_0, .int .i64 a0_1, .int .i64 a0_2, .int .i64 a0_3, .int .i64 a0_4]) ∧ Below w.heap.size w w' := by
 have hu35 := Try.underlying35
 have hu87 := Try.underlying87
 have c7b0 : ((l1.length : Int) == 4) = true := beq_iff_eq.mpr hl
 have c7b1 : ((l1.length : Int) != 4) = false := bne_eq_false_iff_eq.mpr hl
 have HA := Aside0.mk (fo_isReg a0_2 false (by simp [hA]))
 clear hA hl
 go_enter Try.func54, Try.ntmps54
 go_wp2_with (first | (go_at_call 76; (with_reducible refine (HA.out _).mono ?_); rintro e w' ⟨rfl, ⟨nd, rfl⟩⟩))
 exact bodyPost_ret (v := .agg #[_, _, _, _, _]) (by simp [results, Try.results54, go_sem]) rfl ⟨rfl, by repeat (first | (with_reducible first | exact Below.refl _ _ | apply below_alloc | apply pw_below_drewN | apply below_drew1) | (with_reducible refine below_set ?_ (by first | exact Nat.le_add_right _ _ | exact Nat.le_refl _ | (simp; omega))))⟩
set_option maxHeartbeats 4000000 in
set_option maxRecDepth 100000 in
theorem fo_t3 (a0_0 a0_1 a0_2 a0_3 a0_4 : Int) (A1 : Option Addr) (c1 : Nat) (l1 : List S87) (a2 : Int) (w : World) (hl : (l1.length : Int) = 4) (hA : (0 ≤ a0_2 ∧ a0_2 ≤ 3)) (hB : ¬ (0 ≤ a0_3 ∧ a0_3 ≤ 3)) :
  Calls Try.prog 54 #[.agg #[.int .i64 a0_0, .int .i64 a0_1, .int .i64 a0_2, .int .i64 a0_3, .int .i64 a0_4], .slice A1 l1.length c1, .int .i64 a2] w fun e w' => e = .returned (.agg #[.int .i64 a0_0, .int .i64 a0_1, .int .i64 a0_2, .int .i64 a0_3, .int .i64 a0_4]) ∧ Below w.heap.size w w' := by
 have hu35 := Try.underlying35
 have hu87 := Try.underlying87
 have c7b0 : ((l1.length : Int) == 4) = true := beq_iff_eq.mpr hl
 have c7b1 : ((l1.length : Int) != 4) = false := bne_eq_false_iff_eq.mpr hl
 have HA := Aside0.mk (fo_isReg a0_2 true (by simp [hA]))
 have HBB := Aside0.mk (fo_isReg a0_3 false (by simp [hB]))
 clear hA hB hl
 go_enter Try.func54, Try.ntmps54
 go_wp2_with (first | (go_at_call 76; (with_reducible refine (HA.out _).mono ?_); rintro e w' ⟨rfl, ⟨nd, rfl⟩⟩) | (go_at_call 76; (with_reducible refine (HBB.out _).mono ?_); rintro e w' ⟨rfl, ⟨nd, rfl⟩⟩))
 exact bodyPost_ret (v := .agg #[_, _, _, _, _]) (by simp [results, Try.results54, go_sem]) rfl ⟨rfl, by repeat (first | (with_reducible first | exact Below.refl _ _ | apply below_alloc | apply pw_below_drewN | apply below_drew1) | (with_reducible refine below_set ?_ (by first | exact Nat.le_add_right _ _ | exact Nat.le_refl _ | (simp; omega))))⟩
set_option maxHeartbeats 4000000 in
set_option maxRecDepth 100000 in
theorem fo_t4 (a0_0 a0_1 a0_2 a0_3 a0_4 : Int) (A1 : Option Addr) (c1 : Nat) (l1 : List S87) (a2 : Int) (w : World) (hr1 : Kd.C k87 w A1 l1.length l1) (hl : (l1.length : Int) = 4) (hA : (0 ≤ a0_2 ∧ a0_2 ≤ 3)) (hB : (0 ≤ a0_3 ∧ a0_3 ≤ 3)) (hK : (rd_T87 l1 a0_2).f0 = false) :
  Calls Try.prog 54 #[.agg #[.int .i64 a0_0, .int .i64 a0_1, .int .i64 a0_2, .int .i64 a0_3, .int .i64 a0_4], .slice A1 l1.length c1, .int .i64 a2] w fun e w' => e = .returned (.agg #[.int .i64 a0_0, .int .i64 a0_1, .int .i64 a0_2, .int .i64 a0_3, .int .i64 a0_4]) ∧ Below w.heap.size w w' := by
 have hu35 := Try.underlying35
 have hu87 := Try.underlying87
 obtain ⟨ad, e, hx, hy⟩ := at_T87 hr1 a0_2 hA.1 (by omega)
 cases e
 rw [hK] at hx
 clear hr1 hy hK
 have hx2 : ((w.alloc (.cells #[.int .i64 a0_0, .int .i64 a0_1, .int .i64 a0_2, .int .i64 a0_3, .int .i64 a0_4] 35)).alloc (.cells #[.int .i64 0, .int .i64 0, .int .i64 0, .int .i64 0, .int .i64 0] 35)).cell? (ad.add (a0_2.toNat * 2)) = some (.bool false) := by rw [World.cell?_alloc_some _ _ _ (by rw [World.cell?_alloc_some _ _ _ (by rw [hx]; rfl), hx]; rfl), World.cell?_alloc_some _ _ _ (by rw [hx]; rfl), hx]
 clear hx
 have c7b0 : ((l1.length : Int) == 4) = true := beq_iff_eq.mpr hl
 have c7b1 : ((l1.length : Int) != 4) = false := bne_eq_false_iff_eq.mpr hl
 have HA := Aside0.mk (fo_isReg a0_2 true (by simp [hA]))
 have HBB := Aside0.mk (fo_isReg a0_3 true (by simp [hB]))
 have e0 : (0 ≤ a0_2) = True := eq_true hA.1
 have e1 : (a0_2 < (l1.length : Int)) = True := eq_true (by omega)
 have e0b : decide (0 ≤ a0_2) = true := decide_eq_true hA.1
 have e1b : decide (a0_2 < (l1.length : Int)) = true := decide_eq_true (by omega)
 clear hA hB hl
 go_enter Try.func54, Try.ntmps54
 go_wp2_with (first | (go_at_call 76; (with_reducible refine (HA.out _).mono ?_); rintro e w' ⟨rfl, ⟨nd, rfl⟩⟩) | (go_at_call 76; (with_reducible refine (HBB.out _).mono ?_); rintro e w' ⟨rfl, ⟨nd, rfl⟩⟩))
 exact bodyPost_ret (v := .agg #[_, _, _, _, _]) (by simp [results, Try.results54, go_sem]) rfl ⟨rfl, by repeat (first | (with_reducible first | exact Below.refl _ _ | apply below_alloc | apply pw_below_drewN | apply below_drew1) | (with_reducible refine below_set ?_ (by first | exact Nat.le_add_right _ _ | exact Nat.le_refl _ | (simp; omega))))⟩

set_option maxHeartbeats 8000000 in
set_option maxRecDepth 100000 in
theorem fo_t5 (a0_0 a0_1 a0_2 a0_3 a0_4 : Int) (A1 : Option Addr) (c1 : Nat) (l1 : List S87) (a2 : Int) (w : World) (hr1 : Kd.C k87 w A1 l1.length l1) (hl : (l1.length : Int) = 4) (hA : (0 ≤ a0_2 ∧ a0_2 ≤ 3)) (hB : (0 ≤ a0_3 ∧ a0_3 ≤ 3)) (kb : Bool) (va vb : Int) (hK : (rd_T87 l1 a0_2).f0 = true) (hva : (rd_T87 l1 a0_2).f1 = va) (hkb : (rd_T87 l1 a0_3).f0 = kb) (hvb : (rd_T87 l1 a0_3).f1 = vb) (ho : a0_0 ≠ 2 ∧ a0_0 ≠ 3 ∧ a0_0 ≠ 4 ∧ a0_0 ≠ 12) :
  Calls Try.prog 54 #[.agg #[.int .i64 a0_0, .int .i64 a0_1, .int .i64 a0_2, .int .i64 a0_3, .int .i64 a0_4], .slice A1 l1.length c1, .int .i64 a2] w fun e w' => e = .returned (.agg #[Value.int .i64 a0_0, .int .i64 a0_1, .int .i64 a0_2, .int .i64 a0_3, .int .i64 a0_4]) ∧ Below w.heap.size w w' := by
 have hu35 := Try.underlying35
 have hu87 := Try.underlying87
 obtain ⟨ad, e, hx0, hy0⟩ := at_T87 hr1 a0_2 hA.1 (by omega)
 cases e
 obtain ⟨ad', e, hp0, hq0⟩ := at_T87 hr1 a0_3 hB.1 (by omega)
 cases e
 rw [hK] at hx0
 rw [hva] at hy0
 rw [hkb] at hp0
 rw [hvb] at hq0
 clear hr1 hK hva hkb hvb
 have hx : ((w.alloc (.cells #[.int .i64 a0_0, .int .i64 a0_1, .int .i64 a0_2, .int .i64 a0_3, .int .i64 a0_4] 35)).alloc (.cells #[.int .i64 0, .int .i64 0, .int .i64 0, .int .i64 0, .int .i64 0] 35)).cell? (ad.add (a0_2.toNat * 2)) = some (.bool true) := by rw [World.cell?_alloc_some _ _ _ (by rw [World.cell?_alloc_some _ _ _ (by rw [hx0]; rfl), hx0]; rfl), World.cell?_alloc_some _ _ _ (by rw [hx0]; rfl), hx0]
 have hy : ((w.alloc (.cells #[.int .i64 a0_0, .int .i64 a0_1, .int .i64 a0_2, .int .i64 a0_3, .int .i64 a0_4] 35)).alloc (.cells #[.int .i64 0, .int .i64 0, .int .i64 0, .int .i64 0, .int .i64 0] 35)).cell? ⟨(ad.add (a0_2.toNat * 2)).block, (ad.add (a0_2.toNat * 2)).off + 1, none⟩ = some (.int .i64 va) := by rw [World.cell?_alloc_some _ _ _ (by rw [World.cell?_alloc_some _ _ _ (by rw [hy0]; rfl), hy0]; rfl), World.cell?_alloc_some _ _ _ (by rw [hy0]; rfl), hy0]
 have hp : ((w.alloc (.cells #[.int .i64 a0_0, .int .i64 a0_1, .int .i64 a0_2, .int .i64 a0_3, .int .i64 a0_4] 35)).alloc (.cells #[.int .i64 0, .int .i64 0, .int .i64 0, .int .i64 0, .int .i64 0] 35)).cell? (ad.add (a0_3.toNat * 2)) = some (.bool kb) := by rw [World.cell?_alloc_some _ _ _ (by rw [World.cell?_alloc_some _ _ _ (by rw [hp0]; rfl), hp0]; rfl), World.cell?_alloc_some _ _ _ (by rw [hp0]; rfl), hp0]
 have hq : ((w.alloc (.cells #[.int .i64 a0_0, .int .i64 a0_1, .int .i64 a0_2, .int .i64 a0_3, .int .i64 a0_4] 35)).alloc (.cells #[.int .i64 0, .int .i64 0, .int .i64 0, .int .i64 0, .int .i64 0] 35)).cell? ⟨(ad.add (a0_3.toNat * 2)).block, (ad.add (a0_3.toNat * 2)).off + 1, none⟩ = some (.int .i64 vb) := by rw [World.cell?_alloc_some _ _ _ (by rw [World.cell?_alloc_some _ _ _ (by rw [hq0]; rfl), hq0]; rfl), World.cell?_alloc_some _ _ _ (by rw [hq0]; rfl), hq0]
 have hxU : ∀ n o o', (((((w.alloc (.cells #[.int .i64 a0_0, .int .i64 a0_1, .int .i64 a0_2, .int .i64 a0_3, .int .i64 a0_4] 35)).alloc (.cells #[.int .i64 0, .int .i64 0, .int .i64 0, .int .i64 0, .int .i64 0] 35)).drewN n).alloc o).alloc o').cell? (ad.add (a0_2.toNat * 2)) = some (.bool true) := by intro n o o'; rw [World.cell?_alloc_some _ _ _ (by rw [World.cell?_alloc_some _ _ _ (by first | (show (((w.alloc (.cells #[.int .i64 a0_0, .int .i64 a0_1, .int .i64 a0_2, .int .i64 a0_3, .int .i64 a0_4] 35)).alloc (.cells #[.int .i64 0, .int .i64 0, .int .i64 0, .int .i64 0, .int .i64 0] 35)).cell? _).isSome = true; rw [hx]; rfl))]; first | (show (((w.alloc (.cells #[.int .i64 a0_0, .int .i64 a0_1, .int .i64 a0_2, .int .i64 a0_3, .int .i64 a0_4] 35)).alloc (.cells #[.int .i64 0, .int .i64 0, .int .i64 0, .int .i64 0, .int .i64 0] 35)).cell? _).isSome = true; rw [hx]; rfl)), World.cell?_alloc_some _ _ _ (by first | (show (((w.alloc (.cells #[.int .i64 a0_0, .int .i64 a0_1, .int .i64 a0_2, .int .i64 a0_3, .int .i64 a0_4] 35)).alloc (.cells #[.int .i64 0, .int .i64 0, .int .i64 0, .int .i64 0, .int .i64 0] 35)).cell? _).isSome = true; rw [hx]; rfl))]; exact hx
 have hyU : ∀ n o o', (((((w.alloc (.cells #[.int .i64 a0_0, .int .i64 a0_1, .int .i64 a0_2, .int .i64 a0_3, .int .i64 a0_4] 35)).alloc (.cells #[.int .i64 0, .int .i64 0, .int .i64 0, .int .i64 0, .int .i64 0] 35)).drewN n).alloc o).alloc o').cell? ⟨(ad.add (a0_2.toNat * 2)).block, (ad.add (a0_2.toNat * 2)).off + 1, none⟩ = some (.int .i64 va) := by intro n o o'; rw [World.cell?_alloc_some _ _ _ (by rw [World.cell?_alloc_some _ _ _ (by first | (show (((w.alloc (.cells #[.int .i64 a0_0, .int .i64 a0_1, .int .i64 a0_2, .int .i64 a0_3, .int .i64 a0_4] 35)).alloc (.cells #[.int .i64 0, .int .i64 0, .int .i64 0, .int .i64 0, .int .i64 0] 35)).cell? _).isSome = true; rw [hy]; rfl))]; first | (show (((w.alloc (.cells #[.int .i64 a0_0, .int .i64 a0_1, .int .i64 a0_2, .int .i64 a0_3, .int .i64 a0_4] 35)).alloc (.cells #[.int .i64 0, .int .i64 0, .int .i64 0, .int .i64 0, .int .i64 0] 35)).cell? _).isSome = true; rw [hy]; rfl)), World.cell?_alloc_some _ _ _ (by first | (show (((w.alloc (.cells #[.int .i64 a0_0, .int .i64 a0_1, .int .i64 a0_2, .int .i64 a0_3, .int .i64 a0_4] 35)).alloc (.cells #[.int .i64 0, .int .i64 0, .int .i64 0, .int .i64 0, .int .i64 0] 35)).cell? _).isSome = true; rw [hy]; rfl))]; exact hy
 have hpU : ∀ n o o', (((((w.alloc (.cells #[.int .i64 a0_0, .int .i64 a0_1, .int .i64 a0_2, .int .i64 a0_3, .int .i64 a0_4] 35)).alloc (.cells #[.int .i64 0, .int .i64 0, .int .i64 0, .int .i64 0, .int .i64 0] 35)).drewN n).alloc o).alloc o').cell? (ad.add (a0_3.toNat * 2)) = some (.bool kb) := by intro n o o'; rw [World.cell?_alloc_some _ _ _ (by rw [World.cell?_alloc_some _ _ _ (by first | (show (((w.alloc (.cells #[.int .i64 a0_0, .int .i64 a0_1, .int .i64 a0_2, .int .i64 a0_3, .int .i64 a0_4] 35)).alloc (.cells #[.int .i64 0, .int .i64 0, .int .i64 0, .int .i64 0, .int .i64 0] 35)).cell? _).isSome = true; rw [hp]; rfl))]; first | (show (((w.alloc (.cells #[.int .i64 a0_0, .int .i64 a0_1, .int .i64 a0_2, .int .i64 a0_3, .int .i64 a0_4] 35)).alloc (.cells #[.int .i64 0, .int .i64 0, .int .i64 0, .int .i64 0, .int .i64 0] 35)).cell? _).isSome = true; rw [hp]; rfl)), World.cell?_alloc_some _ _ _ (by first | (show (((w.alloc (.cells #[.int .i64 a0_0, .int .i64 a0_1, .int .i64 a0_2, .int .i64 a0_3, .int .i64 a0_4] 35)).alloc (.cells #[.int .i64 0, .int .i64 0, .int .i64 0, .int .i64 0, .int .i64 0] 35)).cell? _).isSome = true; rw [hp]; rfl))]; exact hp
 have hqU : ∀ n o o', (((((w.alloc (.cells #[.int .i64 a0_0, .int .i64 a0_1, .int .i64 a0_2, .int .i64 a0_3, .int .i64 a0_4] 35)).alloc (.cells #[.int .i64 0, .int .i64 0, .int .i64 0, .int .i64 0, .int .i64 0] 35)).drewN n).alloc o).alloc o').cell? ⟨(ad.add (a0_3.toNat * 2)).block, (ad.add (a0_3.toNat * 2)).off + 1, none⟩ = some (.int .i64 vb) := by intro n o o'; rw [World.cell?_alloc_some _ _ _ (by rw [World.cell?_alloc_some _ _ _ (by first | (show (((w.alloc (.cells #[.int .i64 a0_0, .int .i64 a0_1, .int .i64 a0_2, .int .i64 a0_3, .int .i64 a0_4] 35)).alloc (.cells #[.int .i64 0, .int .i64 0, .int .i64 0, .int .i64 0, .int .i64 0] 35)).cell? _).isSome = true; rw [hq]; rfl))]; first | (show (((w.alloc (.cells #[.int .i64 a0_0, .int .i64 a0_1, .int .i64 a0_2, .int .i64 a0_3, .int .i64 a0_4] 35)).alloc (.cells #[.int .i64 0, .int .i64 0, .int .i64 0, .int .i64 0, .int .i64 0] 35)).cell? _).isSome = true; rw [hq]; rfl)), World.cell?_alloc_some _ _ _ (by first | (show (((w.alloc (.cells #[.int .i64 a0_0, .int .i64 a0_1, .int .i64 a0_2, .int .i64 a0_3, .int .i64 a0_4] 35)).alloc (.cells #[.int .i64 0, .int .i64 0, .int .i64 0, .int .i64 0, .int .i64 0] 35)).cell? _).isSome = true; rw [hq]; rfl))]; exact hq
 have hxV : ∀ n o, ((((w.alloc (.cells #[.int .i64 a0_0, .int .i64 a0_1, .int .i64 a0_2, .int .i64 a0_3, .int .i64 a0_4] 35)).alloc (.cells #[.int .i64 0, .int .i64 0, .int .i64 0, .int .i64 0, .int .i64 0] 35)).drewN n).alloc o).cell? (ad.add (a0_2.toNat * 2)) = some (.bool true) := by intro n o; rw [World.cell?_alloc_some _ _ _ (by first | (show (((w.alloc (.cells #[.int .i64 a0_0, .int .i64 a0_1, .int .i64 a0_2, .int .i64 a0_3, .int .i64 a0_4] 35)).alloc (.cells #[.int .i64 0, .int .i64 0, .int .i64 0, .int .i64 0, .int .i64 0] 35)).cell? _).isSome = true; rw [hx]; rfl))]; exact hx
 have hyV : ∀ n o, ((((w.alloc (.cells #[.int .i64 a0_0, .int .i64 a0_1, .int .i64 a0_2, .int .i64 a0_3, .int .i64 a0_4] 35)).alloc (.cells #[.int .i64 0, .int .i64 0, .int .i64 0, .int .i64 0, .int .i64 0] 35)).drewN n).alloc o).cell? ⟨(ad.add (a0_2.toNat * 2)).block, (ad.add (a0_2.toNat * 2)).off + 1, none⟩ = some (.int .i64 va) := by intro n o; rw [World.cell?_alloc_some _ _ _ (by first | (show (((w.alloc (.cells #[.int .i64 a0_0, .int .i64 a0_1, .int .i64 a0_2, .int .i64 a0_3, .int .i64 a0_4] 35)).alloc (.cells #[.int .i64 0, .int .i64 0, .int .i64 0, .int .i64 0, .int .i64 0] 35)).cell? _).isSome = true; rw [hy]; rfl))]; exact hy
 have hpV : ∀ n o, ((((w.alloc (.cells #[.int .i64 a0_0, .int .i64 a0_1, .int .i64 a0_2, .int .i64 a0_3, .int .i64 a0_4] 35)).alloc (.cells #[.int .i64 0, .int .i64 0, .int .i64 0, .int .i64 0, .int .i64 0] 35)).drewN n).alloc o).cell? (ad.add (a0_3.toNat * 2)) = some (.bool kb) := by intro n o; rw [World.cell?_alloc_some _ _ _ (by first | (show (((w.alloc (.cells #[.int .i64 a0_0, .int .i64 a0_1, .int .i64 a0_2, .int .i64 a0_3, .int .i64 a0_4] 35)).alloc (.cells #[.int .i64 0, .int .i64 0, .int .i64 0, .int .i64 0, .int .i64 0] 35)).cell? _).isSome = true; rw [hp]; rfl))]; exact hp
 have hqV : ∀ n o, ((((w.alloc (.cells #[.int .i64 a0_0, .int .i64 a0_1, .int .i64 a0_2, .int .i64 a0_3, .int .i64 a0_4] 35)).alloc (.cells #[.int .i64 0, .int .i64 0, .int .i64 0, .int .i64 0, .int .i64 0] 35)).drewN n).alloc o).cell? ⟨(ad.add (a0_3.toNat * 2)).block, (ad.add (a0_3.toNat * 2)).off + 1, none⟩ = some (.int .i64 vb) := by intro n o; rw [World.cell?_alloc_some _ _ _ (by first | (show (((w.alloc (.cells #[.int .i64 a0_0, .int .i64 a0_1, .int .i64 a0_2, .int .i64 a0_3, .int .i64 a0_4] 35)).alloc (.cells #[.int .i64 0, .int .i64 0, .int .i64 0, .int .i64 0, .int .i64 0] 35)).cell? _).isSome = true; rw [hq]; rfl))]; exact hq
 clear hx0 hy0 hp0 hq0
 have c7b0 : ((l1.length : Int) == 4) = true := beq_iff_eq.mpr hl
 have c7b1 : ((l1.length : Int) != 4) = false := bne_eq_false_iff_eq.mpr hl
 have HA := Aside0.mk (fo_isReg a0_2 true (by simp [hA]))
 have HBB := Aside0.mk (fo_isReg a0_3 true (by simp [hB]))
 have e0 : (0 ≤ a0_2) = True := eq_true hA.1
 have e1 : (a0_2 < (l1.length : Int)) = True := eq_true (by omega)
 have e0b : decide (0 ≤ a0_2) = true := decide_eq_true hA.1
 have e1b : decide (a0_2 < (l1.length : Int)) = true := decide_eq_true (by omega)
 have e2 : (0 ≤ a0_3) = True := eq_true hB.1
 have e3 : (a0_3 < (l1.length : Int)) = True := eq_true (by omega)
 have e2b : decide (0 ≤ a0_3) = true := decide_eq_true hB.1
 have e3b : decide (a0_3 < (l1.length : Int)) = true := decide_eq_true (by omega)
 have o2 : (a0_0 == 2) = false := beq_eq_false_iff_ne.mpr (by omega)
 have o3 : (a0_0 == 3) = false := beq_eq_false_iff_ne.mpr (by omega)
 have o4 : (a0_0 == 4) = false := beq_eq_false_iff_ne.mpr (by omega)
 have o12 : (a0_0 == 12) = false := beq_eq_false_iff_ne.mpr (by omega)
 clear ho
 clear hA hB hl
 go_enter Try.func54, Try.ntmps54
 go_wp2_with (first | (go_at_call 76; (with_reducible refine (HA.out _).mono ?_); rintro e w' ⟨rfl, ⟨nd, rfl⟩⟩) | (go_at_call 76; (with_reducible refine (HBB.out _).mono ?_); rintro e w' ⟨rfl, ⟨nd, rfl⟩⟩))
 go_region
 all_goals
  go_wp2
  exact bodyPost_ret (v := .agg #[_, _, _, _, _]) (by simp [results, Try.results54, go_sem]) rfl ⟨rfl, by repeat (first | (with_reducible first | exact Below.refl _ _ | apply below_alloc | apply pw_below_drewN | apply below_drew1) | (with_reducible refine below_set ?_ (by first | exact Nat.le_add_right _ _ | exact Nat.le_refl _ | (simp; omega))))⟩

set_option maxHeartbeats 8000000 in
set_option maxRecDepth 100000 in
theorem fo_t6 (a0_0 a0_1 a0_2 a0_3 a0_4 : Int) (A1 : Option Addr) (c1 : Nat) (l1 : List S87) (a2 : Int) (w : World) (hr1 : Kd.C k87 w A1 l1.length l1) (hl : (l1.length : Int) = 4) (hA : (0 ≤ a0_2 ∧ a0_2 ≤ 3)) (hB : (0 ≤ a0_3 ∧ a0_3 ≤ 3)) (kb : Bool) (va vb : Int) (hK : (rd_T87 l1 a0_2).f0 = true) (hva : (rd_T87 l1 a0_2).f1 = va) (hkb : (rd_T87 l1 a0_3).f0 = kb) (hvb : (rd_T87 l1 a0_3).f1 = vb) (ho : a0_0 = 12) (hz : va = 0) :
  Calls Try.prog 54 #[.agg #[.int .i64 a0_0, .int .i64 a0_1, .int .i64 a0_2, .int .i64 a0_3, .int .i64 a0_4], .slice A1 l1.length c1, .int .i64 a2] w fun e w' => e = .returned (.agg #[Value.int .i64 11, .int .i64 0, .int .i64 0, .int .i64 0, .int .i64 a0_4]) ∧ Below w.heap.size w w' := by
 have hu35 := Try.underlying35
 have hu87 := Try.underlying87
 obtain ⟨ad, e, hx0, hy0⟩ := at_T87 hr1 a0_2 hA.1 (by omega)
 cases e
 obtain ⟨ad', e, hp0, hq0⟩ := at_T87 hr1 a0_3 hB.1 (by omega)
 cases e
 rw [hK] at hx0
 rw [hva] at hy0
 rw [hkb] at hp0
 rw [hvb] at hq0
 clear hr1 hK hva hkb hvb
 have hx : ((w.alloc (.cells #[.int .i64 a0_0, .int .i64 a0_1, .int .i64 a0_2, .int .i64 a0_3, .int .i64 a0_4] 35)).alloc (.cells #[.int .i64 0, .int .i64 0, .int .i64 0, .int .i64 0, .int .i64 0] 35)).cell? (ad.add (a0_2.toNat * 2)) = some (.bool true) := by rw [World.cell?_alloc_some _ _ _ (by rw [World.cell?_alloc_some _ _ _ (by rw [hx0]; rfl), hx0]; rfl), World.cell?_alloc_some _ _ _ (by rw [hx0]; rfl), hx0]
 have hy : ((w.alloc (.cells #[.int .i64 a0_0, .int .i64 a0_1, .int .i64 a0_2, .int .i64 a0_3, .int .i64 a0_4] 35)).alloc (.cells #[.int .i64 0, .int .i64 0, .int .i64 0, .int .i64 0, .int .i64 0] 35)).cell? ⟨(ad.add (a0_2.toNat * 2)).block, (ad.add (a0_2.toNat * 2)).off + 1, none⟩ = some (.int .i64 va) := by rw [World.cell?_alloc_some _ _ _ (by rw [World.cell?_alloc_some _ _ _ (by rw [hy0]; rfl), hy0]; rfl), World.cell?_alloc_some _ _ _ (by rw [hy0]; rfl), hy0]
 have hp : ((w.alloc (.cells #[.int .i64 a0_0, .int .i64 a0_1, .int .i64 a0_2, .int .i64 a0_3, .int .i64 a0_4] 35)).alloc (.cells #[.int .i64 0, .int .i64 0, .int .i64 0, .int .i64 0, .int .i64 0] 35)).cell? (ad.add (a0_3.toNat * 2)) = some (.bool kb) := by rw [World.cell?_alloc_some _ _ _ (by rw [World.cell?_alloc_some _ _ _ (by rw [hp0]; rfl), hp0]; rfl), World.cell?_alloc_some _ _ _ (by rw [hp0]; rfl), hp0]
 have hq : ((w.alloc (.cells #[.int .i64 a0_0, .int .i64 a0_1, .int .i64 a0_2, .int .i64 a0_3, .int .i64 a0_4] 35)).alloc (.cells #[.int .i64 0, .int .i64 0, .int .i64 0, .int .i64 0, .int .i64 0] 35)).cell? ⟨(ad.add (a0_3.toNat * 2)).block, (ad.add (a0_3.toNat * 2)).off + 1, none⟩ = some (.int .i64 vb) := by rw [World.cell?_alloc_some _ _ _ (by rw [World.cell?_alloc_some _ _ _ (by rw [hq0]; rfl), hq0]; rfl), World.cell?_alloc_some _ _ _ (by rw [hq0]; rfl), hq0]
 have hxU : ∀ n o o', (((((w.alloc (.cells #[.int .i64 a0_0, .int .i64 a0_1, .int .i64 a0_2, .int .i64 a0_3, .int .i64 a0_4] 35)).alloc (.cells #[.int .i64 0, .int .i64 0, .int .i64 0, .int .i64 0, .int .i64 0] 35)).drewN n).alloc o).alloc o').cell? (ad.add (a0_2.toNat * 2)) = some (.bool true) := by intro n o o'; rw [World.cell?_alloc_some _ _ _ (by rw [World.cell?_alloc_some _ _ _ (by first | (show (((w.alloc (.cells #[.int .i64 a0_0, .int .i64 a0_1, .int .i64 a0_2, .int .i64 a0_3, .int .i64 a0_4] 35)).alloc (.cells #[.int .i64 0, .int .i64 0, .int .i64 0, .int .i64 0, .int .i64 0] 35)).cell? _).isSome = true; rw [hx]; rfl))]; first | (show (((w.alloc (.cells #[.int .i64 a0_0, .int .i64 a0_1, .int .i64 a0_2, .int .i64 a0_3, .int .i64 a0_4] 35)).alloc (.cells #[.int .i64 0, .int .i64 0, .int .i64 0, .int .i64 0, .int .i64 0] 35)).cell? _).isSome = true; rw [hx]; rfl)), World.cell?_alloc_some _ _ _ (by first | (show (((w.alloc (.cells #[.int .i64 a0_0, .int .i64 a0_1, .int .i64 a0_2, .int .i64 a0_3, .int .i64 a0_4] 35)).alloc (.cells #[.int .i64 0, .int .i64 0, .int .i64 0, .int .i64 0, .int .i64 0] 35)).cell? _).isSome = true; rw [hx]; rfl))]; exact hx
 have hyU : ∀ n o o', (((((w.alloc (.cells #[.int .i64 a0_0, .int .i64 a0_1, .int .i64 a0_2, .int .i64 a0_3, .int .i64 a0_4] 35)).alloc (.cells #[.int .i64 0, .int .i64 0, .int .i64 0, .int .i64 0, .int .i64 0] 35)).drewN n).alloc o).alloc o').cell? ⟨(ad.add (a0_2.toNat * 2)).block, (ad.add (a0_2.toNat * 2)).off + 1, none⟩ = some (.int .i64 va) := by intro n o o'; rw [World.cell?_alloc_some _ _ _ (by rw [World.cell?_alloc_some _ _ _ (by first | (show (((w.alloc (.cells #[.int .i64 a0_0, .int .i64 a0_1, .int .i64 a0_2, .int .i64 a0_3, .int .i64 a0_4] 35)).alloc (.cells #[.int .i64 0, .int .i64 0, .int .i64 0, .int .i64 0, .int .i64 0] 35)).cell? _).isSome = true; rw [hy]; rfl))]; first | (show (((w.alloc (.cells #[.int .i64 a0_0, .int .i64 a0_1, .int .i64 a0_2, .int .i64 a0_3, .int .i64 a0_4] 35)).alloc (.cells #[.int .i64 0, .int .i64 0, .int .i64 0, .int .i64 0, .int .i64 0] 35)).cell? _).isSome = true; rw [hy]; rfl)), World.cell?_alloc_some _ _ _ (by first | (show (((w.alloc (.cells #[.int .i64 a0_0, .int .i64 a0_1, .int .i64 a0_2, .int .i64 a0_3, .int .i64 a0_4] 35)).alloc (.cells #[.int .i64 0, .int .i64 0, .int .i64 0, .int .i64 0, .int .i64 0] 35)).cell? _).isSome = true; rw [hy]; rfl))]; exact hy
 have hpU : ∀ n o o', (((((w.alloc (.cells #[.int .i64 a0_0, .int .i64 a0_1, .int .i64 a0_2, .int .i64 a0_3, .int .i64 a0_4] 35)).alloc (.cells #[.int .i64 0, .int .i64 0, .int .i64 0, .int .i64 0, .int .i64 0] 35)).drewN n).alloc o).alloc o').cell? (ad.add (a0_3.toNat * 2)) = some (.bool kb) := by intro n o o'; rw [World.cell?_alloc_some _ _ _ (by rw [World.cell?_alloc_some _ _ _ (by first | (show (((w.alloc (.cells #[.int .i64 a0_0, .int .i64 a0_1, .int .i64 a0_2, .int .i64 a0_3, .int .i64 a0_4] 35)).alloc (.cells #[.int .i64 0, .int .i64 0, .int .i64 0, .int .i64 0, .int .i64 0] 35)).cell? _).isSome = true; rw [hp]; rfl))]; first | (show (((w.alloc (.cells #[.int .i64 a0_0, .int .i64 a0_1, .int .i64 a0_2, .int .i64 a0_3, .int .i64 a0_4] 35)).alloc (.cells #[.int .i64 0, .int .i64 0, .int .i64 0, .int .i64 0, .int .i64 0] 35)).cell? _).isSome = true; rw [hp]; rfl)), World.cell?_alloc_some _ _ _ (by first | (show (((w.alloc (.cells #[.int .i64 a0_0, .int .i64 a0_1, .int .i64 a0_2, .int .i64 a0_3, .int .i64 a0_4] 35)).alloc (.cells #[.int .i64 0, .int .i64 0, .int .i64 0, .int .i64 0, .int .i64 0] 35)).cell? _).isSome = true; rw [hp]; rfl))]; exact hp
 have hqU : ∀ n o o', (((((w.alloc (.cells #[.int .i64 a0_0, .int .i64 a0_1, .int .i64 a0_2, .int .i64 a0_3, .int .i64 a0_4] 35)).alloc (.cells #[.int .i64 0, .int .i64 0, .int .i64 0, .int .i64 0, .int .i64 0] 35)).drewN n).alloc o).alloc o').cell? ⟨(ad.add (a0_3.toNat * 2)).block, (ad.add (a0_3.toNat * 2)).off + 1, none⟩ = some (.int .i64 vb) := by intro n o o'; rw [World.cell?_alloc_some _ _ _ (by rw [World.cell?_alloc_some _ _ _ (by first | (show (((w.alloc (.cells #[.int .i64 a0_0, .int .i64 a0_1, .int .i64 a0_2, .int .i64 a0_3, .int .i64 a0_4] 35)).alloc (.cells #[.int .i64 0, .int .i64 0, .int .i64 0, .int .i64 0, .int .i64 0] 35)).cell? _).isSome = true; rw [hq]; rfl))]; first | (show (((w.alloc (.cells #[.int .i64 a0_0, .int .i64 a0_1, .int .i64 a0_2, .int .i64 a0_3, .int .i64 a0_4] 35)).alloc (.cells #[.int .i64 0, .int .i64 0, .int .i64 0, .int .i64 0, .int .i64 0] 35)).cell? _).isSome = true; rw [hq]; rfl)), World.cell?_alloc_some _ _ _ (by first | (show (((w.alloc (.cells #[.int .i64 a0_0, .int .i64 a0_1, .int .i64 a0_2, .int .i64 a0_3, .int .i64 a0_4] 35)).alloc (.cells #[.int .i64 0, .int .i64 0, .int .i64 0, .int .i64 0, .int .i64 0] 35)).cell? _).isSome = true; rw [hq]; rfl))]; exact hq
 have hxV : ∀ n o, ((((w.alloc (.cells #[.int .i64 a0_0, .int .i64 a0_1, .int .i64 a0_2, .int .i64 a0_3, .int .i64 a0_4] 35)).alloc (.cells #[.int .i64 0, .int .i64 0, .int .i64 0, .int .i64 0, .int .i64 0] 35)).drewN n).alloc o).cell? (ad.add (a0_2.toNat * 2)) = some (.bool true) := by intro n o; rw [World.cell?_alloc_some _ _ _ (by first | (show (((w.alloc (.cells #[.int .i64 a0_0, .int .i64 a0_1, .int .i64 a0_2, .int .i64 a0_3, .int .i64 a0_4] 35)).alloc (.cells #[.int .i64 0, .int .i64 0, .int .i64 0, .int .i64 0, .int .i64 0] 35)).cell? _).isSome = true; rw [hx]; rfl))]; exact hx
 have hyV : ∀ n o, ((((w.alloc (.cells #[.int .i64 a0_0, .int .i64 a0_1, .int .i64 a0_2, .int .i64 a0_3, .int .i64 a0_4] 35)).alloc (.cells #[.int .i64 0, .int .i64 0, .int .i64 0, .int .i64 0, .int .i64 0] 35)).drewN n).alloc o).cell? ⟨(ad.add (a0_2.toNat * 2)).block, (ad.add (a0_2.toNat * 2)).off + 1, none⟩ = some (.int .i64 va) := by intro n o; rw [World.cell?_alloc_some _ _ _ (by first | (show (((w.alloc (.cells #[.int .i64 a0_0, .int .i64 a0_1, .int .i64 a0_2, .int .i64 a0_3, .int .i64 a0_4] 35)).alloc (.cells #[.int .i64 0, .int .i64 0, .int .i64 0, .int .i64 0, .int .i64 0] 35)).cell? _).isSome = true; rw [hy]; rfl))]; exact hy
 have hpV : ∀ n o, ((((w.alloc (.cells #[.int .i64 a0_0, .int .i64 a0_1, .int .i64 a0_2, .int .i64 a0_3, .int .i64 a0_4] 35)).alloc (.cells #[.int .i64 0, .int .i64 0, .int .i64 0, .int .i64 0, .int .i64 0] 35)).drewN n).alloc o).cell? (ad.add (a0_3.toNat * 2)) = some (.bool kb) := by intro n o; rw [World.cell?_alloc_some _ _ _ (by first | (show (((w.alloc (.cells #[.int .i64 a0_0, .int .i64 a0_1, .int .i64 a0_2, .int .i64 a0_3, .int .i64 a0_4] 35)).alloc (.cells #[.int .i64 0, .int .i64 0, .int .i64 0, .int .i64 0, .int .i64 0] 35)).cell? _).isSome = true; rw [hp]; rfl))]; exact hp
 have hqV : ∀ n o, ((((w.alloc (.cells #[.int .i64 a0_0, .int .i64 a0_1, .int .i64 a0_2, .int .i64 a0_3, .int .i64 a0_4] 35)).alloc (.cells #[.int .i64 0, .int .i64 0, .int .i64 0, .int .i64 0, .int .i64 0] 35)).drewN n).alloc o).cell? ⟨(ad.add (a0_3.toNat * 2)).block, (ad.add (a0_3.toNat * 2)).off + 1, none⟩ = some (.int .i64 vb) := by intro n o; rw [World.cell?_alloc_some _ _ _ (by first | (show (((w.alloc (.cells #[.int .i64 a0_0, .int .i64 a0_1, .int .i64 a0_2, .int .i64 a0_3, .int .i64 a0_4] 35)).alloc (.cells #[.int .i64 0, .int .i64 0, .int .i64 0, .int .i64 0, .int .i64 0] 35)).cell? _).isSome = true; rw [hq]; rfl))]; exact hq
 clear hx0 hy0 hp0 hq0
 have c7b0 : ((l1.length : Int) == 4) = true := beq_iff_eq.mpr hl
 have c7b1 : ((l1.length : Int) != 4) = false := bne_eq_false_iff_eq.mpr hl
 have HA := Aside0.mk (fo_isReg a0_2 true (by simp [hA]))
 have HBB := Aside0.mk (fo_isReg a0_3 true (by simp [hB]))
 have e0 : (0 ≤ a0_2) = True := eq_true hA.1
 have e1 : (a0_2 < (l1.length : Int)) = True := eq_true (by omega)
 have e0b : decide (0 ≤ a0_2) = true := decide_eq_true hA.1
 have e1b : decide (a0_2 < (l1.length : Int)) = true := decide_eq_true (by omega)
 have e2 : (0 ≤ a0_3) = True := eq_true hB.1
 have e3 : (a0_3 < (l1.length : Int)) = True := eq_true (by omega)
 have e2b : decide (0 ≤ a0_3) = true := decide_eq_true hB.1
 have e3b : decide (a0_3 < (l1.length : Int)) = true := decide_eq_true (by omega)
 have o2 : (a0_0 == 2) = false := beq_eq_false_iff_ne.mpr (by omega)
 have o3 : (a0_0 == 3) = false := beq_eq_false_iff_ne.mpr (by omega)
 have o4 : (a0_0 == 4) = false := beq_eq_false_iff_ne.mpr (by omega)
 have o12 : (a0_0 == 12) = true := beq_iff_eq.mpr ho
 have z : (va == 0) = true := beq_iff_eq.mpr hz
 clear ho hz
 clear hA hB hl
 go_enter Try.func54, Try.ntmps54
 go_wp2_with (first | (go_at_call 76; (with_reducible refine (HA.out _).mono ?_); rintro e w' ⟨rfl, ⟨nd, rfl⟩⟩) | (go_at_call 76; (with_reducible refine (HBB.out _).mono ?_); rintro e w' ⟨rfl, ⟨nd, rfl⟩⟩))
 go_region
 all_goals
  go_wp2
  exact bodyPost_ret (v := .agg #[_, _, _, _, _]) (by simp [results, Try.results54, go_sem]) rfl ⟨rfl, by repeat (first | (with_reducible first | exact Below.refl _ _ | apply below_alloc | apply pw_below_drewN | apply below_drew1) | (with_reducible refine below_set ?_ (by first | exact Nat.le_add_right _ _ | exact Nat.le_refl _ | (simp; omega))))⟩

set_option maxHeartbeats 8000000 in
set_option maxRecDepth 100000 in
theorem fo_t7 (a0_0 a0_1 a0_2 a0_3 a0_4 : Int) (A1 : Option Addr) (c1 : Nat) (l1 : List S87) (a2 : Int) (w : World) (hr1 : Kd.C k87 w A1 l1.length l1) (hl : (l1.length : Int) = 4) (hA : (0 ≤ a0_2 ∧ a0_2 ≤ 3)) (hB : (0 ≤ a0_3 ∧ a0_3 ≤ 3)) (kb : Bool) (va vb : Int) (hK : (rd_T87 l1 a0_2).f0 = true) (hva : (rd_T87 l1 a0_2).f1 = va) (hkb : (rd_T87 l1 a0_3).f0 = kb) (hvb : (rd_T87 l1 a0_3).f1 = vb) (ho : a0_0 = 12) (hz : ¬ va = 0) :
  Calls Try.prog 54 #[.agg #[.int .i64 a0_0, .int .i64 a0_1, .int .i64 a0_2, .int .i64 a0_3, .int .i64 a0_4], .slice A1 l1.length c1, .int .i64 a2] w fun e w' => e = .returned (.agg #[Value.int .i64 11, .int .i64 0, .int .i64 0, .int .i64 0, .int .i64 a2]) ∧ Below w.heap.size w w' := by
 have hu35 := Try.underlying35
 have hu87 := Try.underlying87
 obtain ⟨ad, e, hx0, hy0⟩ := at_T87 hr1 a0_2 hA.1 (by omega)
 cases e
 obtain ⟨ad', e, hp0, hq0⟩ := at_T87 hr1 a0_3 hB.1 (by omega)
 cases e
 rw [hK] at hx0
 rw [hva] at hy0
 rw [hkb] at hp0
 rw [hvb] at hq0
 clear hr1 hK hva hkb hvb
 have hx : ((w.alloc (.cells #[.int .i64 a0_0, .int .i64 a0_1, .int .i64 a0_2, .int .i64 a0_3, .int .i64 a0_4] 35)).alloc (.cells #[.int .i64 0, .int .i64 0, .int .i64 0, .int .i64 0, .int .i64 0] 35)).cell? (ad.add (a0_2.toNat * 2)) = some (.bool true) := by rw [World.cell?_alloc_some _ _ _ (by rw [World.cell?_alloc_some _ _ _ (by rw [hx0]; rfl), hx0]; rfl), World.cell?_alloc_some _ _ _ (by rw [hx0]; rfl), hx0]
 have hy : ((w.alloc (.cells #[.int .i64 a0_0, .int .i64 a0_1, .int .i64 a0_2, .int .i64 a0_3, .int .i64 a0_4] 35)).alloc (.cells #[.int .i64 0, .int .i64 0, .int .i64 0, .int .i64 0, .int .i64 0] 35)).cell? ⟨(ad.add (a0_2.toNat * 2)).block, (ad.add (a0_2.toNat * 2)).off + 1, none⟩ = some (.int .i64 va) := by rw [World.cell?_alloc_some _ _ _ (by rw [World.cell?_alloc_some _ _ _ (by rw [hy0]; rfl), hy0]; rfl), World.cell?_alloc_some _ _ _ (by rw [hy0]; rfl), hy0]
 have hp : ((w.alloc (.cells #[.int .i64 a0_0, .int .i64 a0_1, .int .i64 a0_2, .int .i64 a0_3, .int .i64 a0_4] 35)).alloc (.cells #[.int .i64 0, .int .i64 0, .int .i64 0, .int .i64 0, .int .i64 0] 35)).cell? (ad.add (a0_3.toNat * 2)) = some (.bool kb) := by rw [World.cell?_alloc_some _ _ _ (by rw [World.cell?_alloc_some _ _ _ (by rw [hp0]; rfl), hp0]; rfl), World.cell?_alloc_some _ _ _ (by rw [hp0]; rfl), hp0]
 have hq : ((w.alloc (.cells #[.int .i64 a0_0, .int .i64 a0_1, .int .i64 a0_2, .int .i64 a0_3, .int .i64 a0_4] 35)).alloc (.cells #[.int .i64 0, .int .i64 0, .int .i64 0, .int .i64 0, .int .i64 0] 35)).cell? ⟨(ad.add (a0_3.toNat * 2)).block, (ad.add (a0_3.toNat * 2)).off + 1, none⟩ = some (.int .i64 vb) := by rw [World.cell?_alloc_some _ _ _ (by rw [World.cell?_alloc_some _ _ _ (by rw [hq0]; rfl), hq0]; rfl), World.cell?_alloc_some _ _ _ (by rw [hq0]; rfl), hq0]
 have hxU : ∀ n o o', (((((w.alloc (.cells #[.int .i64 a0_0, .int .i64 a0_1, .int .i64 a0_2, .int .i64 a0_3, .int .i64 a0_4] 35)).alloc (.cells #[.int .i64 0, .int .i64 0, .int .i64 0, .int .i64 0, .int .i64 0] 35)).drewN n).alloc o).alloc o').cell? (ad.add (a0_2.toNat * 2)) = some (.bool true) := by intro n o o'; rw [World.cell?_alloc_some _ _ _ (by rw [World.cell?_alloc_some _ _ _ (by first | (show (((w.alloc (.cells #[.int .i64 a0_0, .int .i64 a0_1, .int .i64 a0_2, .int .i64 a0_3, .int .i64 a0_4] 35)).alloc (.cells #[.int .i64 0, .int .i64 0, .int .i64 0, .int .i64 0, .int .i64 0] 35)).cell? _).isSome = true; rw [hx]; rfl))]; first | (show (((w.alloc (.cells #[.int .i64 a0_0, .int .i64 a0_1, .int .i64 a0_2, .int .i64 a0_3, .int .i64 a0_4] 35)).alloc (.cells #[.int .i64 0, .int .i64 0, .int .i64 0, .int .i64 0, .int .i64 0] 35)).cell? _).isSome = true; rw [hx]; rfl)), World.cell?_alloc_some _ _ _ (by first | (show (((w.alloc (.cells #[.int .i64 a0_0, .int .i64 a0_1, .int .i64 a0_2, .int .i64 a0_3, .int .i64 a0_4] 35)).alloc (.cells #[.int .i64 0, .int .i64 0, .int .i64 0, .int .i64 0, .int .i64 0] 35)).cell? _).isSome = true; rw [hx]; rfl))]; exact hx
 have hyU : ∀ n o o', (((((w.alloc (.cells #[.int .i64 a0_0, .int .i64 a0_1, .int .i64 a0_2, .int .i64 a0_3, .int .i64 a0_4] 35)).alloc (.cells #[.int .i64 0, .int .i64 0, .int .i64 0, .int .i64 0, .int .i64 0] 35)).drewN n).alloc o).alloc o').cell? ⟨(ad.add (a0_2.toNat * 2)).block, (ad.add (a0_2.toNat * 2)).off + 1, none⟩ = some (.int .i64 va) := by intro n o o'; rw [World.cell?_alloc_some _ _ _ (by rw [World.cell?_alloc_some _ _ _ (by first | (show (((w.alloc (.cells #[.int .i64 a0_0, .int .i64 a0_1, .int .i64 a0_2, .int .i64 a0_3, .int .i64 a0_4] 35)).alloc (.cells #[.int .i64 0, .int .i64 0, .int .i64 0, .int .i64 0, .int .i64 0] 35)).cell? _).isSome = true; rw [hy]; rfl))]; first | (show (((w.alloc (.cells #[.int .i64 a0_0, .int .i64 a0_1, .int .i64 a0_2, .int .i64 a0_3, .int .i64 a0_4] 35)).alloc (.cells #[.int .i64 0, .int .i64 0, .int .i64 0, .int .i64 0, .int .i64 0] 35)).cell? _).isSome = true; rw [hy]; rfl)), World.cell?_alloc_some _ _ _ (by first | (show (((w.alloc (.cells #[.int .i64 a0_0, .int .i64 a0_1, .int .i64 a0_2, .int .i64 a0_3, .int .i64 a0_4] 35)).alloc (.cells #[.int .i64 0, .int .i64 0, .int .i64 0, .int .i64 0, .int .i64 0] 35)).cell? _).isSome = true; rw [hy]; rfl))]; exact hy
 have hpU : ∀ n o o', (((((w.alloc (.cells #[.int .i64 a0_0, .int .i64 a0_1, .int .i64 a0_2, .int .i64 a0_3, .int .i64 a0_4] 35)).alloc (.cells #[.int .i64 0, .int .i64 0, .int .i64 0, .int .i64 0, .int .i64 0] 35)).drewN n).alloc o).alloc o').cell? (ad.add (a0_3.toNat * 2)) = some (.bool kb) := by intro n o o'; rw [World.cell?_alloc_some _ _ _ (by rw [World.cell?_alloc_some _ _ _ (by first | (show (((w.alloc (.cells #[.int .i64 a0_0, .int .i64 a0_1, .int .i64 a0_2, .int .i64 a0_3, .int .i64 a0_4] 35)).alloc (.cells #[.int .i64 0, .int .i64 0, .int .i64 0, .int .i64 0, .int .i64 0] 35)).cell? _).isSome = true; rw [hp]; rfl))]; first | (show (((w.alloc (.cells #[.int .i64 a0_0, .int .i64 a0_1, .int .i64 a0_2, .int .i64 a0_3, .int .i64 a0_4] 35)).alloc (.cells #[.int .i64 0, .int .i64 0, .int .i64 0, .int .i64 0, .int .i64 0] 35)).cell? _).isSome = true; rw [hp]; rfl)), World.cell?_alloc_some _ _ _ (by first | (show (((w.alloc (.cells #[.int .i64 a0_0, .int .i64 a0_1, .int .i64 a0_2, .int .i64 a0_3, .int .i64 a0_4] 35)).alloc (.cells #[.int .i64 0, .int .i64 0, .int .i64 0, .int .i64 0, .int .i64 0] 35)).cell? _).isSome = true; rw [hp]; rfl))]; exact hp
 have hqU : ∀ n o o', (((((w.alloc (.cells #[.int .i64 a0_0, .int .i64 a0_1, .int .i64 a0_2, .int .i64 a0_3, .int .i64 a0_4] 35)).alloc (.cells #[.int .i64 0, .int .i64 0, .int .i64 0, .int .i64 0, .int .i64 0] 35)).drewN n).alloc o).alloc o').cell? ⟨(ad.add (a0_3.toNat * 2)).block, (ad.add (a0_3.toNat * 2)).off + 1, none⟩ = some (.int .i64 vb) := by intro n o o'; rw [World.cell?_alloc_some _ _ _ (by rw [World.cell?_alloc_some _ _ _ (by first | (show (((w.alloc (.cells #[.int .i64 a0_0, .int .i64 a0_1, .int .i64 a0_2, .int .i64 a0_3, .int .i64 a0_4] 35)).alloc (.cells #[.int .i64 0, .int .i64 0, .int .i64 0, .int .i64 0, .int .i64 0] 35)).cell? _).isSome = true; rw [hq]; rfl))]; first | (show (((w.alloc (.cells #[.int .i64 a0_0, .int .i64 a0_1, .int .i64 a0_2, .int .i64 a0_3, .int .i64 a0_4] 35)).alloc (.cells #[.int .i64 0, .int .i64 0, .int .i64 0, .int .i64 0, .int .i64 0] 35)).cell? _).isSome = true; rw [hq]; rfl)), World.cell?_alloc_some _ _ _ (by first | (show (((w.alloc (.cells #[.int .i64 a0_0, .int .i64 a0_1, .int .i64 a0_2, .int .i64 a0_3, .int .i64 a0_4] 35)).alloc (.cells #[.int .i64 0, .int .i64 0, .int .i64 0, .int .i64 0, .int .i64 0] 35)).cell? _).isSome = true; rw [hq]; rfl))]; exact hq
 have hxV : ∀ n o, ((((w.alloc (.cells #[.int .i64 a0_0, .int .i64 a0_1, .int .i64 a0_2, .int .i64 a0_3, .int .i64 a0_4] 35)).alloc (.cells #[.int .i64 0, .int .i64 0, .int .i64 0, .int .i64 0, .int .i64 0] 35)).drewN n).alloc o).cell? (ad.add (a0_2.toNat * 2)) = some (.bool true) := by intro n o; rw [World.cell?_alloc_some _ _ _ (by first | (show (((w.alloc (.cells #[.int .i64 a0_0, .int .i64 a0_1, .int .i64 a0_2, .int .i64 a0_3, .int .i64 a0_4] 35)).alloc (.cells #[.int .i64 0, .int .i64 0, .int .i64 0, .int .i64 0, .int .i64 0] 35)).cell? _).isSome = true; rw [hx]; rfl))]; exact hx
 have hyV : ∀ n o, ((((w.alloc (.cells #[.int .i64 a0_0, .int .i64 a0_1, .int .i64 a0_2, .int .i64 a0_3, .int .i64 a0_4] 35)).alloc (.cells #[.int .i64 0, .int .i64 0, .int .i64 0, .int .i64 0, .int .i64 0] 35)).drewN n).alloc o).cell? ⟨(ad.add (a0_2.toNat * 2)).block, (ad.add (a0_2.toNat * 2)).off + 1, none⟩ = some (.int .i64 va) := by intro n o; rw [World.cell?_alloc_some _ _ _ (by first | (show (((w.alloc (.cells #[.int .i64 a0_0, .int .i64 a0_1, .int .i64 a0_2, .int .i64 a0_3, .int .i64 a0_4] 35)).alloc (.cells #[.int .i64 0, .int .i64 0, .int .i64 0, .int .i64 0, .int .i64 0] 35)).cell? _).isSome = true; rw [hy]; rfl))]; exact hy
 have hpV : ∀ n o, ((((w.alloc (.cells #[.int .i64 a0_0, .int .i64 a0_1, .int .i64 a0_2, .int .i64 a0_3, .int .i64 a0_4] 35)).alloc (.cells #[.int .i64 0, .int .i64 0, .int .i64 0, .int .i64 0, .int .i64 0] 35)).drewN n).alloc o).cell? (ad.add (a0_3.toNat * 2)) = some (.bool kb) := by intro n o; rw [World.cell?_alloc_some _ _ _ (by first | (show (((w.alloc (.cells #[.int .i64 a0_0, .int .i64 a0_1, .int .i64 a0_2, .int .i64 a0_3, .int .i64 a0_4] 35)).alloc (.cells #[.int .i64 0, .int .i64 0, .int .i64 0, .int .i64 0, .int .i64 0] 35)).cell? _).isSome = true; rw [hp]; rfl))]; exact hp
 have hqV : ∀ n o, ((((w.alloc (.cells #[.int .i64 a0_0, .int .i64 a0_1, .int .i64 a0_2, .int .i64 a0_3, .int .i64 a0_4] 35)).alloc (.cells #[.int .i64 0, .int .i64 0, .int .i64 0, .int .i64 0, .int .i64 0] 35)).drewN n).alloc o).cell? ⟨(ad.add (a0_3.toNat * 2)).block, (ad.add (a0_3.toNat * 2)).off + 1, none⟩ = some (.int .i64 vb) := by intro n o; rw [World.cell?_alloc_some _ _ _ (by first | (show (((w.alloc (.cells #[.int .i64 a0_0, .int .i64 a0_1, .int .i64 a0_2, .int .i64 a0_3, .int .i64 a0_4] 35)).alloc (.cells #[.int .i64 0, .int .i64 0, .int .i64 0, .int .i64 0, .int .i64 0] 35)).cell? _).isSome = true; rw [hq]; rfl))]; exact hq
 clear hx0 hy0 hp0 hq0
 have c7b0 : ((l1.length : Int) == 4) = true := beq_iff_eq.mpr hl
 have c7b1 : ((l1.length : Int) != 4) = false := bne_eq_false_iff_eq.mpr hl
 have HA := Aside0.mk (fo_isReg a0_2 true (by simp [hA]))
 have HBB := Aside0.mk (fo_isReg a0_3 true (by simp [hB]))
 have e0 : (0 ≤ a0_2) = True := eq_true hA.1
 have e1 : (a0_2 < (l1.length : Int)) = True := eq_true (by omega)
 have e0b : decide (0 ≤ a0_2) = true := decide_eq_true hA.1
 have e1b : decide (a0_2 < (l1.length : Int)) = true := decide_eq_true (by omega)
 have e2 : (0 ≤ a0_3) = True := eq_true hB.1
 have e3 : (a0_3 < (l1.length : Int)) = True := eq_true (by omega)
 have e2b : decide (0 ≤ a0_3) = true := decide_eq_true hB.1
 have e3b : decide (a0_3 < (l1.length : Int)) = true := decide_eq_true (by omega)
 have o2 : (a0_0 == 2) = false := beq_eq_false_iff_ne.mpr (by omega)
 have o3 : (a0_0 == 3) = false := beq_eq_false_iff_ne.mpr (by omega)
 have o4 : (a0_0 == 4) = false := beq_eq_false_iff_ne.mpr (by omega)
 have o12 : (a0_0 == 12) = true := beq_iff_eq.mpr ho
 have z : (va == 0) = false := beq_eq_false_iff_ne.mpr hz
 clear ho hz
 clear hA hB hl
 go_enter Try.func54, Try.ntmps54
 go_wp2_with (first | (go_at_call 76; (with_reducible refine (HA.out _).mono ?_); rintro e w' ⟨rfl, ⟨nd, rfl⟩⟩) | (go_at_call 76; (with_reducible refine (HBB.out _).mono ?_); rintro e w' ⟨rfl, ⟨nd, rfl⟩⟩))
 go_region
 all_goals
  go_wp2
  exact bodyPost_ret (v := .agg #[_, _, _, _, _]) (by simp [results, Try.results54, go_sem]) rfl ⟨rfl, by repeat (first | (with_reducible first | exact Below.refl _ _ | apply below_alloc | apply pw_below_drewN | apply below_drew1) | (with_reducible refine below_set ?_ (by first | exact Nat.le_add_right _ _ | exact Nat.le_refl _ | (simp; omega))))⟩

set_option maxHeartbeats 8000000 in
set_option maxRecDepth 100000 in
theorem fo_u2 (a0_0 a0_1 a0_2 a0_3 a0_4 : Int) (A1 : Option Addr) (c1 : Nat) (l1 : List S87) (a2 : Int) (w : World) (hr1 : Kd.C k87 w A1 l1.length l1) (hl : (l1.length : Int) = 4) (hA : (0 ≤ a0_2 ∧ a0_2 ≤ 3)) (hB : (0 ≤ a0_3 ∧ a0_3 ≤ 3)) (kb : Bool) (va vb : Int) (hK : (rd_T87 l1 a0_2).f0 = true) (hva : (rd_T87 l1 a0_2).f1 = va) (hkb : (rd_T87 l1 a0_3).f0 = kb) (hvb : (rd_T87 l1 a0_3).f1 = vb) (ho : a0_0 = 2) (hkbf : kb = false) :
  Calls Try.prog 54 #[.agg #[.int .i64 a0_0, .int .i64 a0_1, .int .i64 a0_2, .int .i64 a0_3, .int .i64 a0_4], .slice A1 l1.length c1, .int .i64 a2] w fun e w' => e = .returned (.agg #[Value.int .i64 a0_0, .int .i64 a0_1, .int .i64 a0_2, .int .i64 a0_3, .int .i64 a0_4]) ∧ Below w.heap.size w w' := by
 have hu35 := Try.underlying35
 have hu87 := Try.underlying87
 obtain ⟨ad, e, hx0, hy0⟩ := at_T87 hr1 a0_2 hA.1 (by omega)
 cases e
 obtain ⟨ad', e, hp0, hq0⟩ := at_T87 hr1 a0_3 hB.1 (by omega)
 cases e
 rw [hK] at hx0
 rw [hva] at hy0
 rw [hkb] at hp0
 rw [hvb] at hq0
 clear hr1 hK hva hkb hvb
 have hx : ((w.alloc (.cells #[.int .i64 a0_0, .int .i64 a0_1, .int .i64 a0_2, .int .i64 a0_3, .int .i64 a0_4] 35)).alloc (.cells #[.int .i64 0, .int .i64 0, .int .i64 0, .int .i64 0, .int .i64 0] 35)).cell? (ad.add (a0_2.toNat * 2)) = some (.bool true) := by rw [World.cell?_alloc_some _ _ _ (by rw [World.cell?_alloc_some _ _ _ (by rw [hx0]; rfl), hx0]; rfl), World.cell?_alloc_some _ _ _ (by rw [hx0]; rfl), hx0]
 have hy : ((w.alloc (.cells #[.int .i64 a0_0, .int .i64 a0_1, .int .i64 a0_2, .int .i64 a0_3, .int .i64 a0_4] 35)).alloc (.cells #[.int .i64 0, .int .i64 0, .int .i64 0, .int .i64 0, .int .i64 0] 35)).cell? ⟨(ad.add (a0_2.toNat * 2)).block, (ad.add (a0_2.toNat * 2)).off + 1, none⟩ = some (.int .i64 va) := by rw [World.cell?_alloc_some _ _ _ (by rw [World.cell?_alloc_some _ _ _ (by rw [hy0]; rfl), hy0]; rfl), World.cell?_alloc_some _ _ _ (by rw [hy0]; rfl), hy0]
 have hp : ((w.alloc (.cells #[.int .i64 a0_0, .int .i64 a0_1, .int .i64 a0_2, .int .i64 a0_3, .int .i64 a0_4] 35)).alloc (.cells #[.int .i64 0, .int .i64 0, .int .i64 0, .int .i64 0, .int .i64 0] 35)).cell? (ad.add (a0_3.toNat * 2)) = some (.bool kb) := by rw [World.cell?_alloc_some _ _ _ (by rw [World.cell?_alloc_some _ _ _ (by rw [hp0]; rfl), hp0]; rfl), World.cell?_alloc_some _ _ _ (by rw [hp0]; rfl), hp0]
 have hq : ((w.alloc (.cells #[.int .i64 a0_0, .int .i64 a0_1, .int .i64 a0_2, .int .i64 a0_3, .int .i64 a0_4] 35)).alloc (.cells #[.int .i64 0, .int .i64 0, .int .i64 0, .int .i64 0, .int .i64 0] 35)).cell? ⟨(ad.add (a0_3.toNat * 2)).block, (ad.add (a0_3.toNat * 2)).off + 1, none⟩ = some (.int .i64 vb) := by rw [World.cell?_alloc_some _ _ _ (by rw [World.cell?_alloc_some _ _ _ (by rw [hq0]; rfl), hq0]; rfl), World.cell?_alloc_some _ _ _ (by rw [hq0]; rfl), hq0]
 have hxU : ∀ n o o', (((((w.alloc (.cells #[.int .i64 a0_0, .int .i64 a0_1, .int .i64 a0_2, .int .i64 a0_3, .int .i64 a0_4] 35)).alloc (.cells #[.int .i64 0, .int .i64 0, .int .i64 0, .int .i64 0, .int .i64 0] 35)).drewN n).alloc o).alloc o').cell? (ad.add (a0_2.toNat * 2)) = some (.bool true) := by intro n o o'; rw [World.cell?_alloc_some _ _ _ (by rw [World.cell?_alloc_some _ _ _ (by first | (show (((w.alloc (.cells #[.int .i64 a0_0, .int .i64 a0_1, .int .i64 a0_2, .int .i64 a0_3, .int .i64 a0_4] 35)).alloc (.cells #[.int .i64 0, .int .i64 0, .int .i64 0, .int .i64 0, .int .i64 0] 35)).cell? _).isSome = true; rw [hx]; rfl))]; first | (show (((w.alloc (.cells #[.int .i64 a0_0, .int .i64 a0_1, .int .i64 a0_2, .int .i64 a0_3, .int .i64 a0_4] 35)).alloc (.cells #[.int .i64 0, .int .i64 0, .int .i64 0, .int .i64 0, .int .i64 0] 35)).cell? _).isSome = true; rw [hx]; rfl)), World.cell?_alloc_some _ _ _ (by first | (show (((w.alloc (.cells #[.int .i64 a0_0, .int .i64 a0_1, .int .i64 a0_2, .int .i64 a0_3, .int .i64 a0_4] 35)).alloc (.cells #[.int .i64 0, .int .i64 0, .int .i64 0, .int .i64 0, .int .i64 0] 35)).cell? _).isSome = true; rw [hx]; rfl))]; exact hx
 have hyU : ∀ n o o', (((((w.alloc (.cells #[.int .i64 a0_0, .int .i64 a0_1, .int .i64 a0_2, .int .i64 a0_3, .int .i64 a0_4] 35)).alloc (.cells #[.int .i64 0, .int .i64 0, .int .i64 0, .int .i64 0, .int .i64 0] 35)).drewN n).alloc o).alloc o').cell? ⟨(ad.add (a0_2.toNat * 2)).block, (ad.add (a0_2.toNat * 2)).off + 1, none⟩ = some (.int .i64 va) := by intro n o o'; rw [World.cell?_alloc_some _ _ _ (by rw [World.cell?_alloc_some _ _ _ (by first | (show (((w.alloc (.cells #[.int .i64 a0_0, .int .i64 a0_1, .int .i64 a0_2, .int .i64 a0_3, .int .i64 a0_4] 35)).alloc (.cells #[.int .i64 0, .int .i64 0, .int .i64 0, .int .i64 0, .int .i64 0] 35)).cell? _).isSome = true; rw [hy]; rfl))]; first | (show (((w.alloc (.cells #[.int .i64 a0_0, .int .i64 a0_1, .int .i64 a0_2, .int .i64 a0_3, .int .i64 a0_4] 35)).alloc (.cells #[.int .i64 0, .int .i64 0, .int .i64 0, .int .i64 0, .int .i64 0] 35)).cell? _).isSome = true; rw [hy]; rfl)), World.cell?_alloc_some _ _ _ (by first | (show (((w.alloc (.cells #[.int .i64 a0_0, .int .i64 a0_1, .int .i64 a0_2, .int .i64 a0_3, .int .i64 a0_4] 35)).alloc (.cells #[.int .i64 0, .int .i64 0, .int .i64 0, .int .i64 0, .int .i64 0] 35)).cell? _).isSome = true; rw [hy]; rfl))]; exact hy
 have hpU : ∀ n o o', (((((w.alloc (.cells #[.int .i64 a0_0, .int .i64 a0_1, .int .i64 a0_2, .int .i64 a0_3, .int .i64 a0_4] 35)).alloc (.cells #[.int .i64 0, .int .i64 0, .int .i64 0, .int .i64 0, .int .i64 0] 35)).drewN n).alloc o).alloc o').cell? (ad.add (a0_3.toNat * 2)) = some (.bool kb) := by intro n o o'; rw [World.cell?_alloc_some _ _ _ (by rw [World.cell?_alloc_some _ _ _ (by first | (show (((w.alloc (.cells #[.int .i64 a0_0, .int .i64 a0_1, .int .i64 a0_2, .int .i64 a0_3, .int .i64 a0_4] 35)).alloc (.cells #[.int .i64 0, .int .i64 0, .int .i64 0, .int .i64 0, .int .i64 0] 35)).cell? _).isSome = true; rw [hp]; rfl))]; first | (show (((w.alloc (.cells #[.int .i64 a0_0, .int .i64 a0_1, .int .i64 a0_2, .int .i64 a0_3, .int .i64 a0_4] 35)).alloc (.cells #[.int .i64 0, .int .i64 0, .int .i64 0, .int .i64 0, .int .i64 0] 35)).cell? _).isSome = true; rw [hp]; rfl)), World.cell?_alloc_some _ _ _ (by first | (show (((w.alloc (.cells #[.int .i64 a0_0, .int .i64 a0_1, .int .i64 a0_2, .int .i64 a0_3, .int .i64 a0_4] 35)).alloc (.cells #[.int .i64 0, .int .i64 0, .int .i64 0, .int .i64 0, .int .i64 0] 35)).cell? _).isSome = true; rw [hp]; rfl))]; exact hp
 have hqU : ∀ n o o', (((((w.alloc (.cells #[.int .i64 a0_0, .int .i64 a0_1, .int .i64 a0_2, .int .i64 a0_3, .int .i64 a0_4] 35)).alloc (.cells #[.int .i64 0, .int .i64 0, .int .i64 0, .int .i64 0, .int .i64 0] 35)).drewN n).alloc o).alloc o').cell? ⟨(ad.add (a0_3.toNat * 2)).block, (ad.add (a0_3.toNat * 2)).off + 1, none⟩ = some (.int .i64 vb) := by intro n o o'; rw [World.cell?_alloc_some _ _ _ (by rw [World.cell?_alloc_some _ _ _ (by first | (show (((w.alloc (.cells #[.int .i64 a0_0, .int .i64 a0_1, .int .i64 a0_2, .int .i64 a0_3, .int .i64 a0_4] 35)).alloc (.cells #[.int .i64 0, .int .i64 0, .int .i64 0, .int .i64 0, .int .i64 0] 35)).cell? _).isSome = true; rw [hq]; rfl))]; first | (show (((w.alloc (.cells #[.int .i64 a0_0, .int .i64 a0_1, .int .i64 a0_2, .int .i64 a0_3, .int .i64 a0_4] 35)).alloc (.cells #[.int .i64 0, .int .i64 0, .int .i64 0, .int .i64 0, .int .i64 0] 35)).cell? _).isSome = true; rw [hq]; rfl)), World.cell?_alloc_some _ _ _ (by first | (show (((w.alloc (.cells #[.int .i64 a0_0, .int .i64 a0_1, .int .i64 a0_2, .int .i64 a0_3, .int .i64 a0_4] 35)).alloc (.cells #[.int .i64 0, .int .i64 0, .int .i64 0, .int .i64 0, .int .i64 0] 35)).cell? _).isSome = true; rw [hq]; rfl))]; exact hq
 have hxV : ∀ n o, ((((w.alloc (.cells #[.int .i64 a0_0, .int .i64 a0_1, .int .i64 a0_2, .int .i64 a0_3, .int .i64 a0_4] 35)).alloc (.cells #[.int .i64 0, .int .i64 0, .int .i64 0, .int .i64 0, .int .i64 0] 35)).drewN n).alloc o).cell? (ad.add (a0_2.toNat * 2)) = some (.bool true) := by intro n o; rw [World.cell?_alloc_some _ _ _ (by first | (show (((w.alloc (.cells #[.int .i64 a0_0, .int .i64 a0_1, .int .i64 a0_2, .int .i64 a0_3, .int .i64 a0_4] 35)).alloc (.cells #[.int .i64 0, .int .i64 0, .int .i64 0, .int .i64 0, .int .i64 0] 35)).cell? _).isSome = true; rw [hx]; rfl))]; exact hx
 have hyV : ∀ n o, ((((w.alloc (.cells #[.int .i64 a0_0, .int .i64 a0_1, .int .i64 a0_2, .int .i64 a0_3, .int .i64 a0_4] 35)).alloc (.cells #[.int .i64 0, .int .i64 0, .int .i64 0, .int .i64 0, .int .i64 0] 35)).drewN n).alloc o).cell? ⟨(ad.add (a0_2.toNat * 2)).block, (ad.add (a0_2.toNat * 2)).off + 1, none⟩ = some (.int .i64 va) := by intro n o; rw [World.cell?_alloc_some _ _ _ (by first | (show (((w.alloc (.cells #[.int .i64 a0_0, .int .i64 a0_1, .int .i64 a0_2, .int .i64 a0_3, .int .i64 a0_4] 35)).alloc (.cells #[.int .i64 0, .int .i64 0, .int .i64 0, .int .i64 0, .int .i64 0] 35)).cell? _).isSome = true; rw [hy]; rfl))]; exact hy
 have hpV : ∀ n o, ((((w.alloc (.cells #[.int .i64 a0_0, .int .i64 a0_1, .int .i64 a0_2, .int .i64 a0_3, .int .i64 a0_4] 35)).alloc (.cells #[.int .i64 0, .int .i64 0, .int .i64 0, .int .i64 0, .int .i64 0] 35)).drewN n).alloc o).cell? (ad.add (a0_3.toNat * 2)) = some (.bool kb) := by intro n o; rw [World.cell?_alloc_some _ _ _ (by first | (show (((w.alloc (.cells #[.int .i64 a0_0, .int .i64 a0_1, .int .i64 a0_2, .int .i64 a0_3, .int .i64 a0_4] 35)).alloc (.cells #[.int .i64 0, .int .i64 0, .int .i64 0, .int .i64 0, .int .i64 0] 35)).cell? _).isSome = true; rw [hp]; rfl))]; exact hp
 have hqV : ∀ n o, ((((w.alloc (.cells #[.int .i64 a0_0, .int .i64 a0_1, .int .i64 a0_2, .int .i64 a0_3, .int .i64 a0_4] 35)).alloc (.cells #[.int .i64 0, .int .i64 0, .int .i64 0, .int .i64 0, .int .i64 0] 35)).drewN n).alloc o).cell? ⟨(ad.add (a0_3.toNat * 2)).block, (ad.add (a0_3.toNat * 2)).off + 1, none⟩ = some (.int .i64 vb) := by intro n o; rw [World.cell?_alloc_some _ _ _ (by first | (show (((w.alloc (.cells #[.int .i64 a0_0, .int .i64 a0_1, .int .i64 a0_2, .int .i64 a0_3, .int .i64 a0_4] 35)).alloc (.cells #[.int .i64 0, .int .i64 0, .int .i64 0, .int .i64 0, .int .i64 0] 35)).cell? _).isSome = true; rw [hq]; rfl))]; exact hq
 clear hx0 hy0 hp0 hq0
 have c7b0 : ((l1.length : Int) == 4) = true := beq_iff_eq.mpr hl
 have c7b1 : ((l1.length : Int) != 4) = false := bne_eq_false_iff_eq.mpr hl
 have HA := Aside0.mk (fo_isReg a0_2 true (by simp [hA]))
 have HBB := Aside0.mk (fo_isReg a0_3 true (by simp [hB]))
 have e0 : (0 ≤ a0_2) = True := eq_true hA.1
 have e1 : (a0_2 < (l1.length : Int)) = True := eq_true (by omega)
 have e0b : decide (0 ≤ a0_2) = true := decide_eq_true hA.1
 have e1b : decide (a0_2 < (l1.length : Int)) = true := decide_eq_true (by omega)
 have e2 : (0 ≤ a0_3) = True := eq_true hB.1
 have e3 : (a0_3 < (l1.length : Int)) = True := eq_true (by omega)
 have e2b : decide (0 ≤ a0_3) = true := decide_eq_true hB.1
 have e3b : decide (a0_3 < (l1.length : Int)) = true := decide_eq_true (by omega)
 have o2 : (a0_0 == 2) = true := beq_iff_eq.mpr ho
 have o3 : (a0_0 == 3) = false := beq_eq_false_iff_ne.mpr (by omega)
 have o4 : (a0_0 == 4) = false := beq_eq_false_iff_ne.mpr (by omega)
 have o12 : (a0_0 == 12) = false := beq_eq_false_iff_ne.mpr (by omega)
 have HF := Aside0.mk (fo_comp a0_0 va vb)
 subst hkbf
 clear ho
 clear hA hB hl
 go_enter Try.func54, Try.ntmps54
 go_wp2_with (first | (go_at_call 76; (with_reducible refine (HA.out _).mono ?_); rintro e w' ⟨rfl, ⟨nd, rfl⟩⟩) | (go_at_call 76; (with_reducible refine (HBB.out _).mono ?_); rintro e w' ⟨rfl, ⟨nd, rfl⟩⟩))
 go_region
 all_goals
  go_wp2_with (first | (go_at_call 77; (with_reducible refine (HF.out _).mono ?_); rintro e w' ⟨rfl, ⟨nd, rfl⟩⟩))
  exact bodyPost_ret (v := .agg #[_, _, _, _, _]) (by simp [results, Try.results54, go_sem]) rfl ⟨rfl, by repeat (first | (with_reducible first | exact Below.refl _ _ | apply below_alloc | apply pw_below_drewN | apply below_drew1) | (with_reducible refine below_set ?_ (by first | exact Nat.le_add_right _ _ | exact Nat.le_refl _ | (simp; omega))))⟩

set_option maxHeartbeats 8000000 in
set_option maxRecDepth 100000 in
theorem fo_v2 (a0_0 a0_1 a0_2 a0_3 a0_4 : Int) (A1 : Option Addr) (c1 : Nat) (l1 : List S87) (a2 : Int) (w : World) (hr1 : Kd.C k87 w A1 l1.length l1) (hl : (l1.length : Int) = 4) (hA : (0 ≤ a0_2 ∧ a0_2 ≤ 3)) (hB : (0 ≤ a0_3 ∧ a0_3 ≤ 3)) (kb : Bool) (va vb : Int) (hK : (rd_T87 l1 a0_2).f0 = true) (hva : (rd_T87 l1 a0_2).f1 = va) (hkb : (rd_T87 l1 a0_3).f0 = kb) (hvb : (rd_T87 l1 a0_3).f1 = vb) (ho : a0_0 = 2) (hkbf : kb = true) (hw : ¬ (-1000000000 ≤ foComp a0_0 va vb ∧ foComp a0_0 va vb ≤ 1000000000)) :
  Calls Try.prog 54 #[.agg #[.int .i64 a0_0, .int .i64 a0_1, .int .i64 a0_2, .int .i64 a0_3, .int .i64 a0_4], .slice A1 l1.length c1, .int .i64 a2] w fun e w' => e = .returned (.agg #[Value.int .i64 a0_0, .int .i64 a0_1, .int .i64 a0_2, .int .i64 a0_3, .int .i64 a0_4]) ∧ Below w.heap.size w w' := by
 have hu35 := Try.underlying35
 have hu87 := Try.underlying87
 obtain ⟨ad, e, hx0, hy0⟩ := at_T87 hr1 a0_2 hA.1 (by omega)
 cases e
 obtain ⟨ad', e, hp0, hq0⟩ := at_T87 hr1 a0_3 hB.1 (by omega)
 cases e
 rw [hK] at hx0
 rw [hva] at hy0
 rw [hkb] at hp0
 rw [hvb] at hq0
 clear hr1 hK hva hkb hvb
 have hx : ((w.alloc (.cells #[.int .i64 a0_0, .int .i64 a0_1, .int .i64 a0_2, .int .i64 a0_3, .int .i64 a0_4] 35)).alloc (.cells #[.int .i64 0, .int .i64 0, .int .i64 0, .int .i64 0, .int .i64 0] 35)).cell? (ad.add (a0_2.toNat * 2)) = some (.bool true) := by rw [World.cell?_alloc_some _ _ _ (by rw [World.cell?_alloc_some _ _ _ (by rw [hx0]; rfl), hx0]; rfl), World.cell?_alloc_some _ _ _ (by rw [hx0]; rfl), hx0]
 have hy : ((w.alloc (.cells #[.int .i64 a0_0, .int .i64 a0_1, .int .i64 a0_2, .int .i64 a0_3, .int .i64 a0_4] 35)).alloc (.cells #[.int .i64 0, .int .i64 0, .int .i64 0, .int .i64 0, .int .i64 0] 35)).cell? ⟨(ad.add (a0_2.toNat * 2)).block, (ad.add (a0_2.toNat * 2)).off + 1, none⟩ = some (.int .i64 va) := by rw [World.cell?_alloc_some _ _ _ (by rw [World.cell?_alloc_some _ _ _ (by rw [hy0]; rfl), hy0]; rfl), World.cell?_alloc_some _ _ _ (by rw [hy0]; rfl), hy0]
 have hp : ((w.alloc (.cells #[.int .i64 a0_0, .int .i64 a0_1, .int .i64 a0_2, .int .i64 a0_3, .int .i64 a0_4] 35)).alloc (.cells #[.int .i64 0, .int .i64 0, .int .i64 0, .int .i64 0, .int .i64 0] 35)).cell? (ad.add (a0_3.toNat * 2)) = some (.bool kb) := by rw [World.cell?_alloc_some _ _ _ (by rw [World.cell?_alloc_some _ _ _ (by rw [hp0]; rfl), hp0]; rfl), World.cell?_alloc_some _ _ _ (by rw [hp0]; rfl), hp0]
 have hq : ((w.alloc (.cells #[.int .i64 a0_0, .int .i64 a0_1, .int .i64 a0_2, .int .i64 a0_3, .int .i64 a0_4] 35)).alloc (.cells #[.int .i64 0, .int .i64 0, .int .i64 0, .int .i64 0, .int .i64 0] 35)).cell? ⟨(ad.add (a0_3.toNat * 2)).block, (ad.add (a0_3.toNat * 2)).off + 1, none⟩ = some (.int .i64 vb) := by rw [World.cell?_alloc_some _ _ _ (by rw [World.cell?_alloc_some _ _ _ (by rw [hq0]; rfl), hq0]; rfl), World.cell?_alloc_some _ _ _ (by rw [hq0]; rfl), hq0]
 have hxU : ∀ n o o', (((((w.alloc (.cells #[.int .i64 a0_0, .int .i64 a0_1, .int .i64 a0_2, .int .i64 a0_3, .int .i64 a0_4] 35)).alloc (.cells #[.int .i64 0, .int .i64 0, .int .i64 0, .int .i64 0, .int .i64 0] 35)).drewN n).alloc o).alloc o').cell? (ad.add (a0_2.toNat * 2)) = some (.bool true) := by intro n o o'; rw [World.cell?_alloc_some _ _ _ (by rw [World.cell?_alloc_some _ _ _ (by first | (show (((w.alloc (.cells #[.int .i64 a0_0, .int .i64 a0_1, .int .i64 a0_2, .int .i64 a0_3, .int .i64 a0_4] 35)).alloc (.cells #[.int .i64 0, .int .i64 0, .int .i64 0, .int .i64 0, .int .i64 0] 35)).cell? _).isSome = true; rw [hx]; rfl))]; first | (show (((w.alloc (.cells #[.int .i64 a0_0, .int .i64 a0_1, .int .i64 a0_2, .int .i64 a0_3, .int .i64 a0_4] 35)).alloc (.cells #[.int .i64 0, .int .i64 0, .int .i64 0, .int .i64 0, .int .i64 0] 35)).cell? _).isSome = true; rw [hx]; rfl)), World.cell?_alloc_some _ _ _ (by first | (show (((w.alloc (.cells #[.int .i64 a0_0, .int .i64 a0_1, .int .i64 a0_2, .int .i64 a0_3, .int .i64 a0_4] 35)).alloc (.cells #[.int .i64 0, .int .i64 0, .int .i64 0, .int .i64 0, .int .i64 0] 35)).cell? _).isSome = true; rw [hx]; rfl))]; exact hx
 have hyU : ∀ n o o', (((((w.alloc (.cells #[.int .i64 a0_0, .int .i64 a0_1, .int .i64 a0_2, .int .i64 a0_3, .int .i64 a0_4] 35)).alloc (.cells #[.int .i64 0, .int .i64 0, .int .i64 0, .int .i64 0, .int .i64 0] 35)).drewN n).alloc o).alloc o').cell? ⟨(ad.add (a0_2.toNat * 2)).block, (ad.add (a0_2.toNat * 2)).off + 1, none⟩ = some (.int .i64 va) := by intro n o o'; rw [World.cell?_alloc_some _ _ _ (by rw [World.cell?_alloc_some _ _ _ (by first | (show (((w.alloc (.cells #[.int .i64 a0_0, .int .i64 a0_1, .int .i64 a0_2, .int .i64 a0_3, .int .i64 a0_4] 35)).alloc (.cells #[.int .i64 0, .int .i64 0, .int .i64 0, .int .i64 0, .int .i64 0] 35)).cell? _).isSome = true; rw [hy]; rfl))]; first | (show (((w.alloc (.cells #[.int .i64 a0_0, .int .i64 a0_1, .int .i64 a0_2, .int .i64 a0_3, .int .i64 a0_4] 35)).alloc (.cells #[.int .i64 0, .int .i64 0, .int .i64 0, .int .i64 0, .int .i64 0] 35)).cell? _).isSome = true; rw [hy]; rfl)), World.cell?_alloc_some _ _ _ (by first | (show (((w.alloc (.cells #[.int .i64 a0_0, .int .i64 a0_1, .int .i64 a0_2, .int .i64 a0_3, .int .i64 a0_4] 35)).alloc (.cells #[.int .i64 0, .int .i64 0, .int .i64 0, .int .i64 0, .int .i64 0] 35)).cell? _).isSome = true; rw [hy]; rfl))]; exact hy
 have hpU : ∀ n o o', (((((w.alloc (.cells #[.int .i64 a0_0, .int .i64 a0_1, .int .i64 a0_2, .int .i64 a0_3, .int .i64 a0_4] 35)).alloc (.cells #[.int .i64 0, .int .i64 0, .int .i64 0, .int .i64 0, .int .i64 0] 35)).drewN n).alloc o).alloc o').cell? (ad.add (a0_3.toNat * 2)) = some (.bool kb) := by intro n o o'; rw [World.cell?_alloc_some _ _ _ (by rw [World.cell?_alloc_some _ _ _ (by first | (show (((w.alloc (.cells #[.int .i64 a0_0, .int .i64 a0_1, .int .i64 a0_2, .int .i64 a0_3, .int .i64 a0_4] 35)).alloc (.cells #[.int .i64 0, .int .i64 0, .int .i64 0, .int .i64 0, .int .i64 0] 35)).cell? _).isSome = true; rw [hp]; rfl))]; first | (show (((w.alloc (.cells #[.int .i64 a0_0, .int .i64 a0_1, .int .i64 a0_2, .int .i64 a0_3, .int .i64 a0_4] 35)).alloc (.cells #[.int .i64 0, .int .i64 0, .int .i64 0, .int .i64 0, .int .i64 0] 35)).cell? _).isSome = true; rw [hp]; rfl)), World.cell?_alloc_some _ _ _ (by first | (show (((w.alloc (.cells #[.int .i64 a0_0, .int .i64 a0_1, .int .i64 a0_2, .int .i64 a0_3, .int .i64 a0_4] 35)).alloc (.cells #[.int .i64 0, .int .i64 0, .int .i64 0, .int .i64 0, .int .i64 0] 35)).cell? _).isSome = true; rw [hp]; rfl))]; exact hp
 have hqU : ∀ n o o', (((((w.alloc (.cells #[.int .i64 a0_0, .int .i64 a0_1, .int .i64 a0_2, .int .i64 a0_3, .int .i64 a0_4] 35)).alloc (.cells #[.int .i64 0, .int .i64 0, .int .i64 0, .int .i64 0, .int .i64 0] 35)).drewN n).alloc o).alloc o').cell? ⟨(ad.add (a0_3.toNat * 2)).block, (ad.add (a0_3.toNat * 2)).off + 1, none⟩ = some (.int .i64 vb) := by intro n o o'; rw [World.cell?_alloc_some _ _ _ (by rw [World.cell?_alloc_some _ _ _ (by first | (show (((w.alloc (.cells #[.int .i64 a0_0, .int .i64 a0_1, .int .i64 a0_2, .int .i64 a0_3, .int .i64 a0_4] 35)).alloc (.cells #[.int .i64 0, .int .i64 0, .int .i64 0, .int .i64 0, .int .i64 0] 35)).cell? _).isSome = true; rw [hq]; rfl))]; first | (show (((w.alloc (.cells #[.int .i64 a0_0, .int .i64 a0_1, .int .i64 a0_2, .int .i64 a0_3, .int .i64 a0_4] 35)).alloc (.cells #[.int .i64 0, .int .i64 0, .int .i64 0, .int .i64 0, .int .i64 0] 35)).cell? _).isSome = true; rw [hq]; rfl)), World.cell?_alloc_some _ _ _ (by first | (show (((w.alloc (.cells #[.int .i64 a0_0, .int .i64 a0_1, .int .i64 a0_2, .int .i64 a0_3, .int .i64 a0_4] 35)).alloc (.cells #[.int .i64 0, .int .i64 0, .int .i64 0, .int .i64 0, .int .i64 0] 35)).cell? _).isSome = true; rw [hq]; rfl))]; exact hq
 have hxV : ∀ n o, ((((w.alloc (.cells #[.int .i64 a0_0, .int .i64 a0_1, .int .i64 a0_2, .int .i64 a0_3, .int .i64 a0_4] 35)).alloc (.cells #[.int .i64 0, .int .i64 0, .int .i64 0, .int .i64 0, .int .i64 0] 35)).drewN n).alloc o).cell? (ad.add (a0_2.toNat * 2)) = some (.bool true) := by intro n o; rw [World.cell?_alloc_some _ _ _ (by first | (show (((w.alloc (.cells #[.int .i64 a0_0, .int .i64 a0_1, .int .i64 a0_2, .int .i64 a0_3, .int .i64 a0_4] 35)).alloc (.cells #[.int .i64 0, .int .i64 0, .int .i64 0, .int .i64 0, .int .i64 0] 35)).cell? _).isSome = true; rw [hx]; rfl))]; exact hx
 have hyV : ∀ n o, ((((w.alloc (.cells #[.int .i64 a0_0, .int .i64 a0_1, .int .i64 a0_2, .int .i64 a0_3, .int .i64 a0_4] 35)).alloc (.cells #[.int .i64 0, .int .i64 0, .int .i64 0, .int .i64 0, .int .i64 0] 35)).drewN n).alloc o).cell? ⟨(ad.add (a0_2.toNat * 2)).block, (ad.add (a0_2.toNat * 2)).off + 1, none⟩ = some (.int .i64 va) := by intro n o; rw [World.cell?_alloc_some _ _ _ (by first | (show (((w.alloc (.cells #[.int .i64 a0_0, .int .i64 a0_1, .int .i64 a0_2, .int .i64 a0_3, .int .i64 a0_4] 35)).alloc (.cells #[.int .i64 0, .int .i64 0, .int .i64 0, .int .i64 0, .int .i64 0] 35)).cell? _).isSome = true; rw [hy]; rfl))]; exact hy
 have hpV : ∀ n o, ((((w.alloc (.cells #[.int .i64 a0_0, .int .i64 a0_1, .int .i64 a0_2, .int .i64 a0_3, .int .i64 a0_4] 35)).alloc (.cells #[.int .i64 0, .int .i64 0, .int .i64 0, .int .i64 0, .int .i64 0] 35)).drewN n).alloc o).cell? (ad.add (a0_3.toNat * 2)) = some (.bool kb) := by intro n o; rw [World.cell?_alloc_some _ _ _ (by first | (show (((w.alloc (.cells #[.int .i64 a0_0, .int .i64 a0_1, .int .i64 a0_2, .int .i64 a0_3, .int .i64 a0_4] 35)).alloc (.cells #[.int .i64 0, .int .i64 0, .int .i64 0, .int .i64 0, .int .i64 0] 35)).cell? _).isSome = true; rw [hp]; rfl))]; exact hp
 have hqV : ∀ n o, ((((w.alloc (.cells #[.int .i64 a0_0, .int .i64 a0_1, .int .i64 a0_2, .int .i64 a0_3, .int .i64 a0_4] 35)).alloc (.cells #[.int .i64 0, .int .i64 0, .int .i64 0, .int .i64 0, .int .i64 0] 35)).drewN n).alloc o).cell? ⟨(ad.add (a0_3.toNat * 2)).block, (ad.add (a0_3.toNat * 2)).off + 1, none⟩ = some (.int .i64 vb) := by intro n o; rw [World.cell?_alloc_some _ _ _ (by first | (show (((w.alloc (.cells #[.int .i64 a0_0, .int .i64 a0_1, .int .i64 a0_2, .int .i64 a0_3, .int .i64 a0_4] 35)).alloc (.cells #[.int .i64 0, .int .i64 0, .int .i64 0, .int .i64 0, .int .i64 0] 35)).cell? _).isSome = true; rw [hq]; rfl))]; exact hq
 clear hx0 hy0 hp0 hq0
 have c7b0 : ((l1.length : Int) == 4) = true := beq_iff_eq.mpr hl
 have c7b1 : ((l1.length : Int) != 4) = false := bne_eq_false_iff_eq.mpr hl
 have HA := Aside0.mk (fo_isReg a0_2 true (by simp [hA]))
 have HBB := Aside0.mk (fo_isReg a0_3 true (by simp [hB]))
 have e0 : (0 ≤ a0_2) = True := eq_true hA.1
 have e1 : (a0_2 < (l1.length : Int)) = True := eq_true (by omega)
 have e0b : decide (0 ≤ a0_2) = true := decide_eq_true hA.1
 have e1b : decide (a0_2 < (l1.length : Int)) = true := decide_eq_true (by omega)
 have e2 : (0 ≤ a0_3) = True := eq_true hB.1
 have e3 : (a0_3 < (l1.length : Int)) = True := eq_true (by omega)
 have e2b : decide (0 ≤ a0_3) = true := decide_eq_true hB.1
 have e3b : decide (a0_3 < (l1.length : Int)) = true := decide_eq_true (by omega)
 have o2 : (a0_0 == 2) = true := beq_iff_eq.mpr ho
 have o3 : (a0_0 == 3) = false := beq_eq_false_iff_ne.mpr (by omega)
 have o4 : (a0_0 == 4) = false := beq_eq_false_iff_ne.mpr (by omega)
 have o12 : (a0_0 == 12) = false := beq_eq_false_iff_ne.mpr (by omega)
 have HF := Aside0.mk (fo_comp a0_0 va vb)
 subst hkbf
 have HW := Aside0.mk (fo_within (foComp a0_0 va vb) false (by simp [hw]))
 clear ho hw
 clear hA hB hl
 go_enter Try.func54, Try.ntmps54
 go_wp2_with (first | (go_at_call 76; (with_reducible refine (HA.out _).mono ?_); rintro e w' ⟨rfl, ⟨nd, rfl⟩⟩) | (go_at_call 76; (with_reducible refine (HBB.out _).mono ?_); rintro e w' ⟨rfl, ⟨nd, rfl⟩⟩))
 go_region
 all_goals
  go_wp2_with (first | (go_at_call 77; (with_reducible refine (HF.out _).mono ?_); rintro e w' ⟨rfl, ⟨nd, rfl⟩⟩) | (go_at_call 58; (with_reducible refine (HW.out _).mono ?_); rintro e w' ⟨rfl, ⟨nd, rfl⟩⟩))
  exact bodyPost_ret (v := .agg #[_, _, _, _, _]) (by simp [results, Try.results54, go_sem]) rfl ⟨rfl, by repeat (first | (with_reducible first | exact Below.refl _ _ | apply below_alloc | apply pw_below_drewN | apply below_drew1) | (with_reducible refine below_set ?_ (by first | exact Nat.le_add_right _ _ | exact Nat.le_refl _ | (simp; omega))))⟩

set_option maxHeartbeats 8000000 in
set_option maxRecDepth 100000 in
theorem fo_w2 (a0_0 a0_1 a0_2 a0_3 a0_4 : Int) (A1 : Option Addr) (c1 : Nat) (l1 : List S87) (a2 : Int) (w : World) (hr1 : Kd.C k87 w A1 l1.length l1) (hl : (l1.length : Int) = 4) (hA : (0 ≤ a0_2 ∧ a0_2 ≤ 3)) (hB : (0 ≤ a0_3 ∧ a0_3 ≤ 3)) (kb : Bool) (va vb : Int) (hK : (rd_T87 l1 a0_2).f0 = true) (hva : (rd_T87 l1 a0_2).f1 = va) (hkb : (rd_T87 l1 a0_3).f0 = kb) (hvb : (rd_T87 l1 a0_3).f1 = vb) (ho : a0_0 = 2) (hkbf : kb = true) (hw : (-1000000000 ≤ foComp a0_0 va vb ∧ foComp a0_0 va vb ≤ 1000000000)) :
  Calls Try.prog 54 #[.agg #[.int .i64 a0_0, .int .i64 a0_1, .int .i64 a0_2, .int .i64 a0_3, .int .i64 a0_4], .slice A1 l1.length c1, .int .i64 a2] w fun e w' => e = .returned (.agg #[Value.int .i64 1, .int .i64 a0_1, .int .i64 0, .int .i64 0, .int .i64 (foComp a0_0 va vb)]) ∧ Below w.heap.size w w' := by
 have hu35 := Try.underlying35
 have hu87 := Try.underlying87
 obtain ⟨ad, e, hx0, hy0⟩ := at_T87 hr1 a0_2 hA.1 (by omega)
 cases e
 obtain ⟨ad', e, hp0, hq0⟩ := at_T87 hr1 a0_3 hB.1 (by omega)
 cases e
 rw [hK] at hx0
 rw [hva] at hy0
 rw [hkb] at hp0
 rw [hvb] at hq0
 clear hr1 hK hva hkb hvb
 have hx : ((w.alloc (.cells #[.int .i64 a0_0, .int .i64 a0_1, .int .i64 a0_2, .int .i64 a0_3, .int .i64 a0_4] 35)).alloc (.cells #[.int .i64 0, .int .i64 0, .int .i64 0, .int .i64 0, .int .i64 0] 35)).cell? (ad.add (a0_2.toNat * 2)) = some (.bool true) := by rw [World.cell?_alloc_some _ _ _ (by rw [World.cell?_alloc_some _ _ _ (by rw [hx0]; rfl), hx0]; rfl), World.cell?_alloc_some _ _ _ (by rw [hx0]; rfl), hx0]
 have hy : ((w.alloc (.cells #[.int .i64 a0_0, .int .i64 a0_1, .int .i64 a0_2, .int .i64 a0_3, .int .i64 a0_4] 35)).alloc (.cells #[.int .i64 0, .int .i64 0, .int .i64 0, .int .i64 0, .int .i64 0] 35)).cell? ⟨(ad.add (a0_2.toNat * 2)).block, (ad.add (a0_2.toNat * 2)).off + 1, none⟩ = some (.int .i64 va) := by rw [World.cell?_alloc_some _ _ _ (by rw [World.cell?_alloc_some _ _ _ (by rw [hy0]; rfl), hy0]; rfl), World.cell?_alloc_some _ _ _ (by rw [hy0]; rfl), hy0]
 have hp : ((w.alloc (.cells #[.int .i64 a0_0, .int .i64 a0_1, .int .i64 a0_2, .int .i64 a0_3, .int .i64 a0_4] 35)).alloc (.cells #[.int .i64 0, .int .i64 0, .int .i64 0, .int .i64 0, .int .i64 0] 35)).cell? (ad.add (a0_3.toNat * 2)) = some (.bool kb) := by rw [World.cell?_alloc_some _ _ _ (by rw [World.cell?_alloc_some _ _ _ (by rw [hp0]; rfl), hp0]; rfl), World.cell?_alloc_some _ _ _ (by rw [hp0]; rfl), hp0]
 have hq : ((w.alloc (.cells #[.int .i64 a0_0, .int .i64 a0_1, .int .i64 a0_2, .int .i64 a0_3, .int .i64 a0_4] 35)).alloc (.cells #[.int .i64 0, .int .i64 0, .int .i64 0, .int .i64 0, .int .i64 0] 35)).cell? ⟨(ad.add (a0_3.toNat * 2)).block, (ad.add (a0_3.toNat * 2)).off + 1, none⟩ = some (.int .i64 vb) := by rw [World.cell?_alloc_some _ _ _ (by rw [World.cell?_alloc_some _ _ _ (by rw [hq0]; rfl), hq0]; rfl), World.cell?_alloc_some _ _ _ (by rw [hq0]; rfl), hq0]
 have hxU : ∀ n o o', (((((w.alloc (.cells #[.int .i64 a0_0, .int .i64 a0_1, .int .i64 a0_2, .int .i64 a0_3, .int .i64 a0_4] 35)).alloc (.cells #[.int .i64 0, .int .i64 0, .int .i64 0, .int .i64 0, .int .i64 0] 35)).drewN n).alloc o).alloc o').cell? (ad.add (a0_2.toNat * 2)) = some (.bool true) := by intro n o o'; rw [World.cell?_alloc_some _ _ _ (by rw [World.cell?_alloc_some _ _ _ (by first | (show (((w.alloc (.cells #[.int .i64 a0_0, .int .i64 a0_1, .int .i64 a0_2, .int .i64 a0_3, .int .i64 a0_4] 35)).alloc (.cells #[.int .i64 0, .int .i64 0, .int .i64 0, .int .i64 0, .int .i64 0] 35)).cell? _).isSome = true; rw [hx]; rfl))]; first | (show (((w.alloc (.cells #[.int .i64 a0_0, .int .i64 a0_1, .int .i64 a0_2, .int .i64 a0_3, .int .i64 a0_4] 35)).alloc (.cells #[.int .i64 0, .int .i64 0, .int .i64 0, .int .i64 0, .int .i64 0] 35)).cell? _).isSome = true; rw [hx]; rfl)), World.cell?_alloc_some _ _ _ (by first | (show (((w.alloc (.cells #[.int .i64 a0_0, .int .i64 a0_1, .int .i64 a0_2, .int .i64 a0_3, .int .i64 a0_4] 35)).alloc (.cells #[.int .i64 0, .int .i64 0, .int .i64 0, .int .i64 0, .int .i64 0] 35)).cell? _).isSome = true; rw [hx]; rfl))]; exact hx
 have hyU : ∀ n o o', (((((w.alloc (.cells #[.int .i64 a0_0, .int .i64 a0_1, .int .i64 a0_2, .int .i64 a0_3, .int .i64 a0_4] 35)).alloc (.cells #[.int .i64 0, .int .i64 0, .int .i64 0, .int .i64 0, .int .i64 0] 35)).drewN n).alloc o).alloc o').cell? ⟨(ad.add (a0_2.toNat * 2)).block, (ad.add (a0_2.toNat * 2)).off + 1, none⟩ = some (.int .i64 va) := by intro n o o'; rw [World.cell?_alloc_some _ _ _ (by rw [World.cell?_alloc_some _ _ _ (by first | (show (((w.alloc (.cells #[.int .i64 a0_0, .int .i64 a0_1, .int .i64 a0_2, .int .i64 a0_3, .int .i64 a0_4] 35)).alloc (.cells #[.int .i64 0, .int .i64 0, .int .i64 0, .int .i64 0, .int .i64 0] 35)).cell? _).isSome = true; rw [hy]; rfl))]; first | (show (((w.alloc (.cells #[.int .i64 a0_0, .int .i64 a0_1, .int .i64 a0_2, .int .i64 a0_3, .int .i64 a0_4] 35)).alloc (.cells #[.int .i64 0, .int .i64 0, .int .i64 0, .int .i64 0, .int .i64 0] 35)).cell? _).isSome = true; rw [hy]; rfl)), World.cell?_alloc_some _ _ _ (by first | (show (((w.alloc (.cells #[.int .i64 a0_0, .int .i64 a0_1, .int .i64 a0_2, .int .i64 a0_3, .int .i64 a0_4] 35)).alloc (.cells #[.int .i64 0, .int .i64 0, .int .i64 0, .int .i64 0, .int .i64 0] 35)).cell? _).isSome = true; rw [hy]; rfl))]; exact hy
 have hpU : ∀ n o o', (((((w.alloc (.cells #[.int .i64 a0_0, .int .i64 a0_1, .int .i64 a0_2, .int .i64 a0_3, .int .i64 a0_4] 35)).alloc (.cells #[.int .i64 0, .int .i64 0, .int .i64 0, .int .i64 0, .int .i64 0] 35)).drewN n).alloc o).alloc o').cell? (ad.add (a0_3.toNat * 2)) = some (.bool kb) := by intro n o o'; rw [World.cell?_alloc_some _ _ _ (by rw [World.cell?_alloc_some _ _ _ (by first | (show (((w.alloc (.cells #[.int .i64 a0_0, .int .i64 a0_1, .int .i64 a0_2, .int .i64 a0_3, .int .i64 a0_4] 35)).alloc (.cells #[.int .i64 0, .int .i64 0, .int .i64 0, .int .i64 0, .int .i64 0] 35)).cell? _).isSome = true; rw [hp]; rfl))]; first | (show (((w.alloc (.cells #[.int .i64 a0_0, .int .i64 a0_1, .int .i64 a0_2, .int .i64 a0_3, .int .i64 a0_4] 35)).alloc (.cells #[.int .i64 0, .int .i64 0, .int .i64 0, .int .i64 0, .int .i64 0] 35)).cell? _).isSome = true; rw [hp]; rfl)), World.cell?_alloc_some _ _ _ (by first | (show (((w.alloc (.cells #[.int .i64 a0_0, .int .i64 a0_1, .int .i64 a0_2, .int .i64 a0_3, .int .i64 a0_4] 35)).alloc (.cells #[.int .i64 0, .int .i64 0, .int .i64 0, .int .i64 0, .int .i64 0] 35)).cell? _).isSome = true; rw [hp]; rfl))]; exact hp
 have hqU : ∀ n o o', (((((w.alloc (.cells #[.int .i64 a0_0, .int .i64 a0_1, .int .i64 a0_2, .int .i64 a0_3, .int .i64 a0_4] 35)).alloc (.cells #[.int .i64 0, .int .i64 0, .int .i64 0, .int .i64 0, .int .i64 0] 35)).drewN n).alloc o).alloc o').cell? ⟨(ad.add (a0_3.toNat * 2)).block, (ad.add (a0_3.toNat * 2)).off + 1, none⟩ = some (.int .i64 vb) := by intro n o o'; rw [World.cell?_alloc_some _ _ _ (by rw [World.cell?_alloc_some _ _ _ (by first | (show (((w.alloc (.cells #[.int .i64 a0_0, .int .i64 a0_1, .int .i64 a0_2, .int .i64 a0_3, .int .i64 a0_4] 35)).alloc (.cells #[.int .i64 0, .int .i64 0, .int .i64 0, .int .i64 0, .int .i64 0] 35)).cell? _).isSome = true; rw [hq]; rfl))]; first | (show (((w.alloc (.cells #[.int .i64 a0_0, .int .i64 a0_1, .int .i64 a0_2, .int .i64 a0_3, .int .i64 a0_4] 35)).alloc (.cells #[.int .i64 0, .int .i64 0, .int .i64 0, .int .i64 0, .int .i64 0] 35)).cell? _).isSome = true; rw [hq]; rfl)), World.cell?_alloc_some _ _ _ (by first | (show (((w.alloc (.cells #[.int .i64 a0_0, .int .i64 a0_1, .int .i64 a0_2, .int .i64 a0_3, .int .i64 a0_4] 35)).alloc (.cells #[.int .i64 0, .int .i64 0, .int .i64 0, .int .i64 0, .int .i64 0] 35)).cell? _).isSome = true; rw [hq]; rfl))]; exact hq
 have hxV : ∀ n o, ((((w.alloc (.cells #[.int .i64 a0_0, .int .i64 a0_1, .int .i64 a0_2, .int .i64 a0_3, .int .i64 a0_4] 35)).alloc (.cells #[.int .i64 0, .int .i64 0, .int .i64 0, .int .i64 0, .int .i64 0] 35)).drewN n).alloc o).cell? (ad.add (a0_2.toNat * 2)) = some (.bool true) := by intro n o; rw [World.cell?_alloc_some _ _ _ (by first | (show (((w.alloc (.cells #[.int .i64 a0_0, .int .i64 a0_1, .int .i64 a0_2, .int .i64 a0_3, .int .i64 a0_4] 35)).alloc (.cells #[.int .i64 0, .int .i64 0, .int .i64 0, .int .i64 0, .int .i64 0] 35)).cell? _).isSome = true; rw [hx]; rfl))]; exact hx
 have hyV : ∀ n o, ((((w.alloc (.cells #[.int .i64 a0_0, .int .i64 a0_1, .int .i64 a0_2, .int .i64 a0_3, .int .i64 a0_4] 35)).alloc (.cells #[.int .i64 0, .int .i64 0, .int .i64 0, .int .i64 0, .int .i64 0] 35)).drewN n).alloc o).cell? ⟨(ad.add (a0_2.toNat * 2)).block, (ad.add (a0_2.toNat * 2)).off + 1, none⟩ = some (.int .i64 va) := by intro n o; rw [World.cell?_alloc_some _ _ _ (by first | (show (((w.alloc (.cells #[.int .i64 a0_0, .int .i64 a0_1, .int .i64 a0_2, .int .i64 a0_3, .int .i64 a0_4] 35)).alloc (.cells #[.int .i64 0, .int .i64 0, .int .i64 0, .int .i64 0, .int .i64 0] 35)).cell? _).isSome = true; rw [hy]; rfl))]; exact hy
 have hpV : ∀ n o, ((((w.alloc (.cells #[.int .i64 a0_0, .int .i64 a0_1, .int .i64 a0_2, .int .i64 a0_3, .int .i64 a0_4] 35)).alloc (.cells #[.int .i64 0, .int .i64 0, .int .i64 0, .int .i64 0, .int .i64 0] 35)).drewN n).alloc o).cell? (ad.add (a0_3.toNat * 2)) = some (.bool kb) := by intro n o; rw [World.cell?_alloc_some _ _ _ (by first | (show (((w.alloc (.cells #[.int .i64 a0_0, .int .i64 a0_1, .int .i64 a0_2, .int .i64 a0_3, .int .i64 a0_4] 35)).alloc (.cells #[.int .i64 0, .int .i64 0, .int .i64 0, .int .i64 0, .int .i64 0] 35)).cell? _).isSome = true; rw [hp]; rfl))]; exact hp
 have hqV : ∀ n o, ((((w.alloc (.cells #[.int .i64 a0_0, .int .i64 a0_1, .int .i64 a0_2, .int .i64 a0_3, .int .i64 a0_4] 35)).alloc (.cells #[.int .i64 0, .int .i64 0, .int .i64 0, .int .i64 0, .int .i64 0] 35)).drewN n).alloc o).cell? ⟨(ad.add (a0_3.toNat * 2)).block, (ad.add (a0_3.toNat * 2)).off + 1, none⟩ = some (.int .i64 vb) := by intro n o; rw [World.cell?_alloc_some _ _ _ (by first | (show (((w.alloc (.cells #[.int .i64 a0_0, .int .i64 a0_1, .int .i64 a0_2, .int .i64 a0_3, .int .i64 a0_4] 35)).alloc (.cells #[.int .i64 0, .int .i64 0, .int .i64 0, .int .i64 0, .int .i64 0] 35)).cell? _).isSome = true; rw [hq]; rfl))]; exact hq
 clear hx0 hy0 hp0 hq0
 have c7b0 : ((l1.length : Int) == 4) = true := beq_iff_eq.mpr hl
 have c7b1 : ((l1.length : Int) != 4) = false := bne_eq_false_iff_eq.mpr hl
 have HA := Aside0.mk (fo_isReg a0_2 true (by simp [hA]))
 have HBB := Aside0.mk (fo_isReg a0_3 true (by simp [hB]))
 have e0 : (0 ≤ a0_2) = True := eq_true hA.1
 have e1 : (a0_2 < (l1.length : Int)) = True := eq_true (by omega)
 have e0b : decide (0 ≤ a0_2) = true := decide_eq_true hA.1
 have e1b : decide (a0_2 < (l1.length : Int)) = true := decide_eq_true (by omega)
 have e2 : (0 ≤ a0_3) = True := eq_true hB.1
 have e3 : (a0_3 < (l1.length : Int)) = True := eq_true (by omega)
 have e2b : decide (0 ≤ a0_3) = true := decide_eq_true hB.1
 have e3b : decide (a0_3 < (l1.length : Int)) = true := decide_eq_true (by omega)
 have o2 : (a0_0 == 2) = true := beq_iff_eq.mpr ho
 have o3 : (a0_0 == 3) = false := beq_eq_false_iff_ne.mpr (by omega)
 have o4 : (a0_0 == 4) = false := beq_eq_false_iff_ne.mpr (by omega)
 have o12 : (a0_0 == 12) = false := beq_eq_false_iff_ne.mpr (by omega)
 have HF := Aside0.mk (fo_comp a0_0 va vb)
 subst hkbf
 have HW := Aside0.mk (fo_within (foComp a0_0 va vb) true (by simp [hw]))
 clear ho hw
 clear hA hB hl
 go_enter Try.func54, Try.ntmps54
 go_wp2_with (first | (go_at_call 76; (with_reducible refine (HA.out _).mono ?_); rintro e w' ⟨rfl, ⟨nd, rfl⟩⟩) | (go_at_call 76; (with_reducible refine (HBB.out _).mono ?_); rintro e w' ⟨rfl, ⟨nd, rfl⟩⟩))
 go_region
 all_goals
  go_wp2_with (first | (go_at_call 77; (with_reducible refine (HF.out _).mono ?_); rintro e w' ⟨rfl, ⟨nd, rfl⟩⟩) | (go_at_call 58; (with_reducible refine (HW.out _).mono ?_); rintro e w' ⟨rfl, ⟨nd, rfl⟩⟩))
  exact bodyPost_ret (v := .agg #[_, _, _, _, _]) (by simp [results, Try.results54, go_sem]) rfl ⟨rfl, by repeat (first | (with_reducible first | exact Below.refl _ _ | apply below_alloc | apply pw_below_drewN | apply below_drew1) | (with_reducible refine below_set ?_ (by first | exact Nat.le_add_right _ _ | exact Nat.le_refl _ | (simp; omega))))⟩

set_option maxHeartbeats 8000000 in
set_option maxRecDepth 100000 in
theorem fo_u3 (a0_0 a0_1 a0_2 a0_3 a0_4 : Int) (A1 : Option Addr) (c1 : Nat) (l1 : List S87) (a2 : Int) (w : World) (hr1 : Kd.C k87 w A1 l1.length l1) (hl : (l1.length : Int) = 4) (hA : (0 ≤ a0_2 ∧ a0_2 ≤ 3)) (hB : (0 ≤ a0_3 ∧ a0_3 ≤ 3)) (kb : Bool) (va vb : Int) (hK : (rd_T87 l1 a0_2).f0 = true) (hva : (rd_T87 l1 a0_2).f1 = va) (hkb : (rd_T87 l1 a0_3).f0 = kb) (hvb : (rd_T87 l1 a0_3).f1 = vb) (ho : a0_0 = 3) (hkbf : kb = false) :
  Calls Try.prog 54 #[.agg #[.int .i64 a0_0, .int .i64 a0_1, .int .i64 a0_2, .int .i64 a0_3, .int .i64 a0_4], .slice A1 l1.length c1, .int .i64 a2] w fun e w' => e = .returned (.agg #[Value.int .i64 a0_0, .int .i64 a0_1, .int .i64 a0_2, .int .i64 a0_3, .int .i64 a0_4]) ∧ Below w.heap.size w w' := by
 have hu35 := Try.underlying35
 have hu87 := Try.underlying87
 obtain ⟨ad, e, hx0, hy0⟩ := at_T87 hr1 a0_2 hA.1 (by omega)
 cases e
 obtain ⟨ad', e, hp0, hq0⟩ := at_T87 hr1 a0_3 hB.1 (by omega)
 cases e
 rw [hK] at hx0
 rw [hva] at hy0
 rw [hkb] at hp0
 rw [hvb] at hq0
 clear hr1 hK hva hkb hvb
 have hx : ((w.alloc (.cells #[.int .i64 a0_0, .int .i64 a0_1, .int .i64 a0_2, .int .i64 a0_3, .int .i64 a0_4] 35)).alloc (.cells #[.int .i64 0, .int .i64 0, .int .i64 0, .int .i64 0, .int .i64 0] 35)).cell? (ad.add (a0_2.toNat * 2)) = some (.bool true) := by rw [World.cell?_alloc_some _ _ _ (by rw [World.cell?_alloc_some _ _ _ (by rw [hx0]; rfl), hx0]; rfl), World.cell?_alloc_some _ _ _ (by rw [hx0]; rfl), hx0]
 have hy : ((w.alloc (.cells #[.int .i64 a0_0, .int .i64 a0_1, .int .i64 a0_2, .int .i64 a0_3, .int .i64 a0_4] 35)).alloc (.cells #[.int .i64 0, .int .i64 0, .int .i64 0, .int .i64 0, .int .i64 0] 35)).cell? ⟨(ad.add (a0_2.toNat * 2)).block, (ad.add (a0_2.toNat * 2)).off + 1, none⟩ = some (.int .i64 va) := by rw [World.cell?_alloc_some _ _ _ (by rw [World.cell?_alloc_some _ _ _ (by rw [hy0]; rfl), hy0]; rfl), World.cell?_alloc_some _ _ _ (by rw [hy0]; rfl), hy0]
 have hp : ((w.alloc (.cells #[.int .i64 a0_0, .int .i64 a0_1, .int .i64 a0_2, .int .i64 a0_3, .int .i64 a0_4] 35)).alloc (.cells #[.int .i64 0, .int .i64 0, .int .i64 0, .int .i64 0, .int .i64 0] 35)).cell? (ad.add (a0_3.toNat * 2)) = some (.bool kb) := by rw [World.cell?_alloc_some _ _ _ (by rw [World.cell?_alloc_some _ _ _ (by rw [hp0]; rfl), hp0]; rfl), World.cell?_alloc_some _ _ _ (by rw [hp0]; rfl), hp0]
 have hq : ((w.alloc (.cells #[.int .i64 a0_0, .int .i64 a0_1, .int .i64 a0_2, .int .i64 a0_3, .int .i64 a0_4] 35)).alloc (.cells #[.int .i64 0, .int .i64 0, .int .i64 0, .int .i64 0, .int .i64 0] 35)).cell? ⟨(ad.add (a0_3.toNat * 2)).block, (ad.add (a0_3.toNat * 2)).off + 1, none⟩ = some (.int .i64 vb) := by rw [World.cell?_alloc_some _ _ _ (by rw [World.cell?_alloc_some _ _ _ (by rw [hq0]; rfl), hq0]; rfl), World.cell?_alloc_some _ _ _ (by rw [hq0]; rfl), hq0]
 have hxU : ∀ n o o', (((((w.alloc (.cells #[.int .i64 a0_0, .int .i64 a0_1, .int .i64 a0_2, .int .i64 a0_3, .int .i64 a0_4] 35)).alloc (.cells #[.int .i64 0, .int .i64 0, .int .i64 0, .int .i64 0, .int .i64 0] 35)).drewN n).alloc o).alloc o').cell? (ad.add (a0_2.toNat * 2)) = some (.bool true) := by intro n o o'; rw [World.cell?_alloc_some _ _ _ (by rw [World.cell?_alloc_some _ _ _ (by first | (show (((w.alloc (.cells #[.int .i64 a0_0, .int .i64 a0_1, .int .i64 a0_2, .int .i64 a0_3, .int .i64 a0_4] 35)).alloc (.cells #[.int .i64 0, .int .i64 0, .int .i64 0, .int .i64 0, .int .i64 0] 35)).cell? _).isSome = true; rw [hx]; rfl))]; first | (show (((w.alloc (.cells #[.int .i64 a0_0, .int .i64 a0_1, .int .i64 a0_2, .int .i64 a0_3, .int .i64 a0_4] 35)).alloc (.cells #[.int .i64 0, .int .i64 0, .int .i64 0, .int .i64 0, .int .i64 0] 35)).cell? _).isSome = true; rw [hx]; rfl)), World.cell?_alloc_some _ _ _ (by first | (show (((w.alloc (.cells #[.int .i64 a0_0, .int .i64 a0_1, .int .i64 a0_2, .int .i64 a0_3, .int .i64 a0_4] 35)).alloc (.cells #[.int .i64 0, .int .i64 0, .int .i64 0, .int .i64 0, .int .i64 0] 35)).cell? _).isSome = true; rw [hx]; rfl))]; exact hx
 have hyU : ∀ n o o', (((((w.alloc (.cells #[.int .i64 a0_0, .int .i64 a0_1, .int .i64 a0_2, .int .i64 a0_3, .int .i64 a0_4] 35)).alloc (.cells #[.int .i64 0, .int .i64 0, .int .i64 0, .int .i64 0, .int .i64 0] 35)).drewN n).alloc o).alloc o').cell? ⟨(ad.add (a0_2.toNat * 2)).block, (ad.add (a0_2.toNat * 2)).off + 1, none⟩ = some (.int .i64 va) := by intro n o o'; rw [World.cell?_alloc_some _ _ _ (by rw [World.cell?_alloc_some _ _ _ (by first | (show (((w.alloc (.cells #[.int .i64 a0_0, .int .i64 a0_1, .int .i64 a0_2, .int .i64 a0_3, .int .i64 a0_4] 35)).alloc (.cells #[.int .i64 0, .int .i64 0, .int .i64 0, .int .i64 0, .int .i64 0] 35)).cell? _).isSome = true; rw [hy]; rfl))]; first | (show (((w.alloc (.cells #[.int .i64 a0_0, .int .i64 a0_1, .int .i64 a0_2, .int .i64 a0_3, .int .i64 a0_4] 35)).alloc (.cells #[.int .i64 0, .int .i64 0, .int .i64 0, .int .i64 0, .int .i64 0] 35)).cell? _).isSome = true; rw [hy]; rfl)), World.cell?_alloc_some _ _ _ (by first | (show (((w.alloc (.cells #[.int .i64 a0_0, .int .i64 a0_1, .int .i64 a0_2, .int .i64 a0_3, .int .i64 a0_4] 35)).alloc (.cells #[.int .i64 0, .int .i64 0, .int .i64 0, .int .i64 0, .int .i64 0] 35)).cell? _).isSome = true; rw [hy]; rfl))]; exact hy
 have hpU : ∀ n o o', (((((w.alloc (.cells #[.int .i64 a0_0, .int .i64 a0_1, .int .i64 a0_2, .int .i64 a0_3, .int .i64 a0_4] 35)).alloc (.cells #[.int .i64 0, .int .i64 0, .int .i64 0, .int .i64 0, .int .i64 0] 35)).drewN n).alloc o).alloc o').cell? (ad.add (a0_3.toNat * 2)) = some (.bool kb) := by intro n o o'; rw [World.cell?_alloc_some _ _ _ (by rw [World.cell?_alloc_some _ _ _ (by first | (show (((w.alloc (.cells #[.int .i64 a0_0, .int .i64 a0_1, .int .i64 a0_2, .int .i64 a0_3, .int .i64 a0_4] 35)).alloc (.cells #[.int .i64 0, .int .i64 0, .int .i64 0, .int .i64 0, .int .i64 0] 35)).cell? _).isSome = true; rw [hp]; rfl))]; first | (show (((w.alloc (.cells #[.int .i64 a0_0, .int .i64 a0_1, .int .i64 a0_2, .int .i64 a0_3, .int .i64 a0_4] 35)).alloc (.cells #[.int .i64 0, .int .i64 0, .int .i64 0, .int .i64 0, .int .i64 0] 35)).cell? _).isSome = true; rw [hp]; rfl)), World.cell?_alloc_some _ _ _ (by first | (show (((w.alloc (.cells #[.int .i64 a0_0, .int .i64 a0_1, .int .i64 a0_2, .int .i64 a0_3, .int .i64 a0_4] 35)).alloc (.cells #[.int .i64 0, .int .i64 0, .int .i64 0, .int .i64 0, .int .i64 0] 35)).cell? _).isSome = true; rw [hp]; rfl))]; exact hp
 have hqU : ∀ n o o', (((((w.alloc (.cells #[.int .i64 a0_0, .int .i64 a0_1, .int .i64 a0_2, .int .i64 a0_3, .int .i64 a0_4] 35)).alloc (.cells #[.int .i64 0, .int .i64 0, .int .i64 0, .int .i64 0, .int .i64 0] 35)).drewN n).alloc o).alloc o').cell? ⟨(ad.add (a0_3.toNat * 2)).block, (ad.add (a0_3.toNat * 2)).off + 1, none⟩ = some (.int .i64 vb) := by intro n o o'; rw [World.cell?_alloc_some _ _ _ (by rw [World.cell?_alloc_some _ _ _ (by first | (show (((w.alloc (.cells #[.int .i64 a0_0, .int .i64 a0_1, .int .i64 a0_2, .int .i64 a0_3, .int .i64 a0_4] 35)).alloc (.cells #[.int .i64 0, .int .i64 0, .int .i64 0, .int .i64 0, .int .i64 0] 35)).cell? _).isSome = true; rw [hq]; rfl))]; first | (show (((w.alloc (.cells #[.int .i64 a0_0, .int .i64 a0_1, .int .i64 a0_2, .int .i64 a0_3, .int .i64 a0_4] 35)).alloc (.cells #[.int .i64 0, .int .i64 0, .int .i64 0, .int .i64 0, .int .i64 0] 35)).cell? _).isSome = true; rw [hq]; rfl)), World.cell?_alloc_some _ _ _ (by first | (show (((w.alloc (.cells #[.int .i64 a0_0, .int .i64 a0_1, .int .i64 a0_2, .int .i64 a0_3, .int .i64 a0_4] 35)).alloc (.cells #[.int .i64 0, .int .i64 0, .int .i64 0, .int .i64 0, .int .i64 0] 35)).cell? _).isSome = true; rw [hq]; rfl))]; exact hq
 have hxV : ∀ n o, ((((w.alloc (.cells #[.int .i64 a0_0, .int .i64 a0_1, .int .i64 a0_2, .int .i64 a0_3, .int .i64 a0_4] 35)).alloc (.cells #[.int .i64 0, .int .i64 0, .int .i64 0, .int .i64 0, .int .i64 0] 35)).drewN n).alloc o).cell? (ad.add (a0_2.toNat * 2)) = some (.bool true) := by intro n o; rw [World.cell?_alloc_some _ _ _ (by first | (show (((w.alloc (.cells #[.int .i64 a0_0, .int .i64 a0_1, .int .i64 a0_2, .int .i64 a0_3, .int .i64 a0_4] 35)).alloc (.cells #[.int .i64 0, .int .i64 0, .int .i64 0, .int .i64 0, .int .i64 0] 35)).cell? _).isSome = true; rw [hx]; rfl))]; exact hx
 have hyV : ∀ n o, ((((w.alloc (.cells #[.int .i64 a0_0, .int .i64 a0_1, .int .i64 a0_2, .int .i64 a0_3, .int .i64 a0_4] 35)).alloc (.cells #[.int .i64 0, .int .i64 0, .int .i64 0, .int .i64 0, .int .i64 0] 35)).drewN n).alloc o).cell? ⟨(ad.add (a0_2.toNat * 2)).block, (ad.add (a0_2.toNat * 2)).off + 1, none⟩ = some (.int .i64 va) := by intro n o; rw [World.cell?_alloc_some _ _ _ (by first | (show (((w.alloc (.cells #[.int .i64 a0_0, .int .i64 a0_1, .int .i64 a0_2, .int .i64 a0_3, .int .i64 a0_4] 35)).alloc (.cells #[.int .i64 0, .int .i64 0, .int .i64 0, .int .i64 0, .int .i64 0] 35)).cell? _).isSome = true; rw [hy]; rfl))]; exact hy
 have hpV : ∀ n o, ((((w.alloc (.cells #[.int .i64 a0_0, .int .i64 a0_1, .int .i64 a0_2, .int .i64 a0_3, .int .i64 a0_4] 35)).alloc (.cells #[.int .i64 0, .int .i64 0, .int .i64 0, .int .i64 0, .int .i64 0] 35)).drewN n).alloc o).cell? (ad.add (a0_3.toNat * 2)) = some (.bool kb) := by intro n o; rw [World.cell?_alloc_some _ _ _ (by first | (show (((w.alloc (.cells #[.int .i64 a0_0, .int .i64 a0_1, .int .i64 a0_2, .int .i64 a0_3, .int .i64 a0_4] 35)).alloc (.cells #[.int .i64 0, .int .i64 0, .int .i64 0, .int .i64 0, .int .i64 0] 35)).cell? _).isSome = true; rw [hp]; rfl))]; exact hp
 have hqV : ∀ n o, ((((w.alloc (.cells #[.int .i64 a0_0, .int .i64 a0_1, .int .i64 a0_2, .int .i64 a0_3, .int .i64 a0_4] 35)).alloc (.cells #[.int .i64 0, .int .i64 0, .int .i64 0, .int .i64 0, .int .i64 0] 35)).drewN n).alloc o).cell? ⟨(ad.add (a0_3.toNat * 2)).block, (ad.add (a0_3.toNat * 2)).off + 1, none⟩ = some (.int .i64 vb) := by intro n o; rw [World.cell?_alloc_some _ _ _ (by first | (show (((w.alloc (.cells #[.int .i64 a0_0, .int .i64 a0_1, .int .i64 a0_2, .int .i64 a0_3, .int .i64 a0_4] 35)).alloc (.cells #[.int .i64 0, .int .i64 0, .int .i64 0, .int .i64 0, .int .i64 0] 35)).cell? _).isSome = true; rw [hq]; rfl))]; exact hq
 clear hx0 hy0 hp0 hq0
 have c7b0 : ((l1.length : Int) == 4) = true := beq_iff_eq.mpr hl
 have c7b1 : ((l1.length : Int) != 4) = false := bne_eq_false_iff_eq.mpr hl
 have HA := Aside0.mk (fo_isReg a0_2 true (by simp [hA]))
 have HBB := Aside0.mk (fo_isReg a0_3 true (by simp [hB]))
 have e0 : (0 ≤ a0_2) = True := eq_true hA.1
 have e1 : (a0_2 < (l1.length : Int)) = True := eq_true (by omega)
 have e0b : decide (0 ≤ a0_2) = true := decide_eq_true hA.1
 have e1b : decide (a0_2 < (l1.length : Int)) = true := decide_eq_true (by omega)
 have e2 : (0 ≤ a0_3) = True := eq_true hB.1
 have e3 : (a0_3 < (l1.length : Int)) = True := eq_true (by omega)
 have e2b : decide (0 ≤ a0_3) = true := decide_eq_true hB.1
 have e3b : decide (a0_3 < (l1.length : Int)) = true := decide_eq_true (by omega)
 have o2 : (a0_0 == 2) = false := beq_eq_false_iff_ne.mpr (by omega)
 have o3 : (a0_0 == 3) = true := beq_iff_eq.mpr ho
 have o4 : (a0_0 == 4) = false := beq_eq_false_iff_ne.mpr (by omega)
 have o12 : (a0_0 == 12) = false := beq_eq_false_iff_ne.mpr (by omega)
 have HF := Aside0.mk (fo_comp a0_0 va vb)
 subst hkbf
 clear ho
 clear hA hB hl
 go_enter Try.func54, Try.ntmps54
 go_wp2_with (first | (go_at_call 76; (with_reducible refine (HA.out _).mono ?_); rintro e w' ⟨rfl, ⟨nd, rfl⟩⟩) | (go_at_call 76; (with_reducible refine (HBB.out _).mono ?_); rintro e w' ⟨rfl, ⟨nd, rfl⟩⟩))
 go_region
 all_goals
  go_wp2_with (first | (go_at_call 77; (with_reducible refine (HF.out _).mono ?_); rintro e w' ⟨rfl, ⟨nd, rfl⟩⟩))
  exact bodyPost_ret (v := .agg #[_, _, _, _, _]) (by simp [results, Try.results54, go_sem]) rfl ⟨rfl, by repeat (first | (with_reducible first | exact Below.refl _ _ | apply below_alloc | apply pw_below_drewN | apply below_drew1) | (with_reducible refine below_set ?_ (by first | exact Nat.le_add_right _ _ | exact Nat.le_refl _ | (simp; omega))))⟩

set_option maxHeartbeats 8000000 in
set_option maxRecDepth 100000 in
theorem fo_v3 (a0_0 a0_1 a0_2 a0_3 a0_4 : Int) (A1 : Option Addr) (c1 : Nat) (l1 : List S87) (a2 : Int) (w : World) (hr1 : Kd.C k87 w A1 l1.length l1) (hl : (l1.length : Int) = 4) (hA : (0 ≤ a0_2 ∧ a0_2 ≤ 3)) (hB : (0 ≤ a0_3 ∧ a0_3 ≤ 3)) (kb : Bool) (va vb : Int) (hK : (rd_T87 l1 a0_2).f0 = true) (hva : (rd_T87 l1 a0_2).f1 = va) (hkb : (rd_T87 l1 a0_3).f0 = kb) (hvb : (rd_T87 l1 a0_3).f1 = vb) (ho : a0_0 = 3) (hkbf : kb = true) (hw : ¬ (-1000000000 ≤ foComp a0_0 va vb ∧ foComp a0_0 va vb ≤ 1000000000)) :
  Calls Try.prog 54 #[.agg #[.int .i64 a0_0, .int .i64 a0_1, .int .i64 a0_2, .int .i64 a0_3, .int .i64 a0_4], .slice A1 l1.length c1, .int .i64 a2] w fun e w' => e = .returned (.agg #[Value.int .i64 a0_0, .int .i64 a0_1, .int .i64 a0_2, .int .i64 a0_3, .int .i64 a0_4]) ∧ Below w.heap.size w w' := by
 have hu35 := Try.underlying35
 have hu87 := Try.underlying87
 obtain ⟨ad, e, hx0, hy0⟩ := at_T87 hr1 a0_2 hA.1 (by omega)
 cases e
 obtain ⟨ad', e, hp0, hq0⟩ := at_T87 hr1 a0_3 hB.1 (by omega)
 cases e
 rw [hK] at hx0
 rw [hva] at hy0
 rw [hkb] at hp0
 rw [hvb] at hq0
 clear hr1 hK hva hkb hvb
 have hx : ((w.alloc (.cells #[.int .i64 a0_0, .int .i64 a0_1, .int .i64 a0_2, .int .i64 a0_3, .int .i64 a0_4] 35)).alloc (.cells #[.int .i64 0, .int .i64 0, .int .i64 0, .int .i64 0, .int .i64 0] 35)).cell? (ad.add (a0_2.toNat * 2)) = some (.bool true) := by rw [World.cell?_alloc_some _ _ _ (by rw [World.cell?_alloc_some _ _ _ (by rw [hx0]; rfl), hx0]; rfl), World.cell?_alloc_some _ _ _ (by rw [hx0]; rfl), hx0]
 have hy : ((w.alloc (.cells #[.int .i64 a0_0, .int .i64 a0_1, .int .i64 a0_2, .int .i64 a0_3, .int .i64 a0_4] 35)).alloc (.cells #[.int .i64 0, .int .i64 0, .int .i64 0, .int .i64 0, .int .i64 0] 35)).cell? ⟨(ad.add (a0_2.toNat * 2)).block, (ad.add (a0_2.toNat * 2)).off + 1, none⟩ = some (.int .i64 va) := by rw [World.cell?_alloc_some _ _ _ (by rw [World.cell?_alloc_some _ _ _ (by rw [hy0]; rfl), hy0]; rfl), World.cell?_alloc_some _ _ _ (by rw [hy0]; rfl), hy0]
 have hp : ((w.alloc (.cells #[.int .i64 a0_0, .int .i64 a0_1, .int .i64 a0_2, .int .i64 a0_3, .int .i64 a0_4] 35)).alloc (.cells #[.int .i64 0, .int .i64 0, .int .i64 0, .int .i64 0, .int .i64 0] 35)).cell? (ad.add (a0_3.toNat * 2)) = some (.bool kb) := by rw [World.cell?_alloc_some _ _ _ (by rw [World.cell?_alloc_some _ _ _ (by rw [hp0]; rfl), hp0]; rfl), World.cell?_alloc_some _ _ _ (by rw [hp0]; rfl), hp0]
 have hq : ((w.alloc (.cells #[.int .i64 a0_0, .int .i64 a0_1, .int .i64 a0_2, .int .i64 a0_3, .int .i64 a0_4] 35)).alloc (.cells #[.int .i64 0, .int .i64 0, .int .i64 0, .int .i64 0, .int .i64 0] 35)).cell? ⟨(ad.add (a0_3.toNat * 2)).block, (ad.add (a0_3.toNat * 2)).off + 1, none⟩ = some (.int .i64 vb) := by rw [World.cell?_alloc_some _ _ _ (by rw [World.cell?_alloc_some _ _ _ (by rw [hq0]; rfl), hq0]; rfl), World.cell?_alloc_some _ _ _ (by rw [hq0]; rfl), hq0]
 have hxU : ∀ n o o', (((((w.alloc (.cells #[.int .i64 a0_0, .int .i64 a0_1, .int .i64 a0_2, .int .i64 a0_3, .int .i64 a0_4] 35)).alloc (.cells #[.int .i64 0, .int .i64 0, .int .i64 0, .int .i64 0, .int .i64 0] 35)).drewN n).alloc o).alloc o').cell? (ad.add (a0_2.toNat * 2)) = some (.bool true) := by intro n o o'; rw [World.cell?_alloc_some _ _ _ (by rw [World.cell?_alloc_some _ _ _ (by first | (show (((w.alloc (.cells #[.int .i64 a0_0, .int .i64 a0_1, .int .i64 a0_2, .int .i64 a0_3, .int .i64 a0_4] 35)).alloc (.cells #[.int .i64 0, .int .i64 0, .int .i64 0, .int .i64 0, .int .i64 0] 35)).cell? _).isSome = true; rw [hx]; rfl))]; first | (show (((w.alloc (.cells #[.int .i64 a0_0, .int .i64 a0_1, .int .i64 a0_2, .int .i64 a0_3, .int .i64 a0_4] 35)).alloc (.cells #[.int .i64 0, .int .i64 0, .int .i64 0, .int .i64 0, .int .i64 0] 35)).cell? _).isSome = true; rw [hx]; rfl)), World.cell?_alloc_some _ _ _ (by first | (show (((w.alloc (.cells #[.int .i64 a0_0, .int .i64 a0_1, .int .i64 a0_2, .int .i64 a0_3, .int .i64 a0_4] 35)).alloc (.cells #[.int .i64 0, .int .i64 0, .int .i64 0, .int .i64 0, .int .i64 0] 35)).cell? _).isSome = true; rw [hx]; rfl))]; exact hx
 have hyU : ∀ n o o', (((((w.alloc (.cells #[.int .i64 a0_0, .int .i64 a0_1, .int .i64 a0_2, .int .i64 a0_3, .int .i64 a0_4] 35)).alloc (.cells #[.int .i64 0, .int .i64 0, .int .i64 0, .int .i64 0, .int .i64 0] 35)).drewN n).alloc o).alloc o').cell? ⟨(ad.add (a0_2.toNat * 2)).block, (ad.add (a0_2.toNat * 2)).off + 1, none⟩ = some (.int .i64 va) := by intro n o o'; rw [World.cell?_alloc_some _ _ _ (by rw [World.cell?_alloc_some _ _ _ (by first | (show (((w.alloc (.cells #[.int .i64 a0_0, .int .i64 a0_1, .int .i64 a0_2, .int .i64 a0_3, .int .i64 a0_4] 35)).alloc (.cells #[.int .i64 0, .int .i64 0, .int .i64 0, .int .i64 0, .int .i64 0] 35)).cell? _).isSome = true; rw [hy]; rfl))]; first | (show (((w.alloc (.cells #[.int .i64 a0_0, .int .i64 a0_1, .int .i64 a0_2, .int .i64 a0_3, .int .i64 a0_4] 35)).alloc (.cells #[.int .i64 0, .int .i64 0, .int .i64 0, .int .i64 0, .int .i64 0] 35)).cell? _).isSome = true; rw [hy]; rfl)), World.cell?_alloc_some _ _ _ (by first | (show (((w.alloc (.cells #[.int .i64 a0_0, .int .i64 a0_1, .int .i64 a0_2, .int .i64 a0_3, .int .i64 a0_4] 35)).alloc (.cells #[.int .i64 0, .int .i64 0, .int .i64 0, .int .i64 0, .int .i64 0] 35)).cell? _).isSome = true; rw [hy]; rfl))]; exact hy
 have hpU : ∀ n o o', (((((w.alloc (.cells #[.int .i64 a0_0, .int .i64 a0_1, .int .i64 a0_2, .int .i64 a0_3, .int .i64 a0_4] 35)).alloc (.cells #[.int .i64 0, .int .i64 0, .int .i64 0, .int .i64 0, .int .i64 0] 35)).drewN n).alloc o).alloc o').cell? (ad.add (a0_3.toNat * 2)) = some (.bool kb) := by intro n o o'; rw [World.cell?_alloc_some _ _ _ (by rw [World.cell?_alloc_some _ _ _ (by first | (show (((w.alloc (.cells #[.int .i64 a0_0, .int .i64 a0_1, .int .i64 a0_2, .int .i64 a0_3, .int .i64 a0_4] 35)).alloc (.cells #[.int .i64 0, .int .i64 0, .int .i64 0, .int .i64 0, .int .i64 0] 35)).cell? _).isSome = true; rw [hp]; rfl))]; first | (show (((w.alloc (.cells #[.int .i64 a0_0, .int .i64 a0_1, .int .i64 a0_2, .int .i64 a0_3, .int .i64 a0_4] 35)).alloc (.cells #[.int .i64 0, .int .i64 0, .int .i64 0, .int .i64 0, .int .i64 0] 35)).cell? _).isSome = true; rw [hp]; rfl)), World.cell?_alloc_some _ _ _ (by first | (show (((w.alloc (.cells #[.int .i64 a0_0, .int .i64 a0_1, .int .i64 a0_2, .int .i64 a0_3, .int .i64 a0_4] 35)).alloc (.cells #[.int .i64 0, .int .i64 0, .int .i64 0, .int .i64 0, .int .i64 0] 35)).cell? _).isSome = true; rw [hp]; rfl))]; exact hp
 have hqU : ∀ n o o', (((((w.alloc (.cells #[.int .i64 a0_0, .int .i64 a0_1, .int .i64 a0_2, .int .i64 a0_3, .int .i64 a0_4] 35)).alloc (.cells #[.int .i64 0, .int .i64 0, .int .i64 0, .int .i64 0, .int .i64 0] 35)).drewN n).alloc o).alloc o').cell? ⟨(ad.add (a0_3.toNat * 2)).block, (ad.add (a0_3.toNat * 2)).off + 1, none⟩ = some (.int .i64 vb) := by intro n o o'; rw [World.cell?_alloc_some _ _ _ (by rw [World.cell?_alloc_some _ _ _ (by first | (show (((w.alloc (.cells #[.int .i64 a0_0, .int .i64 a0_1, .int .i64 a0_2, .int .i64 a0_3, .int .i64 a0_4] 35)).alloc (.cells #[.int .i64 0, .int .i64 0, .int .i64 0, .int .i64 0, .int .i64 0] 35)).cell? _).isSome = true; rw [hq]; rfl))]; first | (show (((w.alloc (.cells #[.int .i64 a0_0, .int .i64 a0_1, .int .i64 a0_2, .int .i64 a0_3, .int .i64 a0_4] 35)).alloc (.cells #[.int .i64 0, .int .i64 0, .int .i64 0, .int .i64 0, .int .i64 0] 35)).cell? _).isSome = true; rw [hq]; rfl)), World.cell?_alloc_some _ _ _ (by first | (show (((w.alloc (.cells #[.int .i64 a0_0, .int .i64 a0_1, .int .i64 a0_2, .int .i64 a0_3, .int .i64 a0_4] 35)).alloc (.cells #[.int .i64 0, .int .i64 0, .int .i64 0, .int .i64 0, .int .i64 0] 35)).cell? _).isSome = true; rw [hq]; rfl))]; exact hq
 have hxV : ∀ n o, ((((w.alloc (.cells #[.int .i64 a0_0, .int .i64 a0_1, .int .i64 a0_2, .int .i64 a0_3, .int .i64 a0_4] 35)).alloc (.cells #[.int .i64 0, .int .i64 0, .int .i64 0, .int .i64 0, .int .i64 0] 35)).drewN n).alloc o).cell? (ad.add (a0_2.toNat * 2)) = some (.bool true) := by intro n o; rw [World.cell?_alloc_some _ _ _ (by first | (show (((w.alloc (.cells #[.int .i64 a0_0, .int .i64 a0_1, .int .i64 a0_2, .int .i64 a0_3, .int .i64 a0_4] 35)).alloc (.cells #[.int .i64 0, .int .i64 0, .int .i64 0, .int .i64 0, .int .i64 0] 35)).cell? _).isSome = true; rw [hx]; rfl))]; exact hx
 have hyV : ∀ n o, ((((w.alloc (.cells #[.int .i64 a0_0, .int .i64 a0_1, .int .i64 a0_2, .int .i64 a0_3, .int .i64 a0_4] 35)).alloc (.cells #[.int .i64 0, .int .i64 0, .int .i64 0, .int .i64 0, .int .i64 0] 35)).drewN n).alloc o).cell? ⟨(ad.add (a0_2.toNat * 2)).block, (ad.add (a0_2.toNat * 2)).off + 1, none⟩ = some (.int .i64 va) := by intro n o; rw [World.cell?_alloc_some _ _ _ (by first | (show (((w.alloc (.cells #[.int .i64 a0_0, .int .i64 a0_1, .int .i64 a0_2, .int .i64 a0_3, .int .i64 a0_4] 35)).alloc (.cells #[.int .i64 0, .int .i64 0, .int .i64 0, .int .i64 0, .int .i64 0] 35)).cell? _).isSome = true; rw [hy]; rfl))]; exact hy
 have hpV : ∀ n o, ((((w.alloc (.cells #[.int .i64 a0_0, .int .i64 a0_1, .int .i64 a0_2, .int .i64 a0_3, .int .i64 a0_4] 35)).alloc (.cells #[.int .i64 0, .int .i64 0, .int .i64 0, .int .i64 0, .int .i64 0] 35)).drewN n).alloc o).cell? (ad.add (a0_3.toNat * 2)) = some (.bool kb) := by intro n o; rw [World.cell?_alloc_some _ _ _ (by first | (show (((w.alloc (.cells #[.int .i64 a0_0, .int .i64 a0_1, .int .i64 a0_2, .int .i64 a0_3, .int .i64 a0_4] 35)).alloc (.cells #[.int .i64 0, .int .i64 0, .int .i64 0, .int .i64 0, .int .i64 0] 35)).cell? _).isSome = true; rw [hp]; rfl))]; exact hp
 have hqV : ∀ n o, ((((w.alloc (.cells #[.int .i64 a0_0, .int .i64 a0_1, .int .i64 a0_2, .int .i64 a0_3, .int .i64 a0_4] 35)).alloc (.cells #[.int .i64 0, .int .i64 0, .int .i64 0, .int .i64 0, .int .i64 0] 35)).drewN n).alloc o).cell? ⟨(ad.add (a0_3.toNat * 2)).block, (ad.add (a0_3.toNat * 2)).off + 1, none⟩ = some (.int .i64 vb) := by intro n o; rw [World.cell?_alloc_some _ _ _ (by first | (show (((w.alloc (.cells #[.int .i64 a0_0, .int .i64 a0_1, .int .i64 a0_2, .int .i64 a0_3, .int .i64 a0_4] 35)).alloc (.cells #[.int .i64 0, .int .i64 0, .int .i64 0, .int .i64 0, .int .i64 0] 35)).cell? _).isSome = true; rw [hq]; rfl))]; exact hq
 clear hx0 hy0 hp0 hq0
 have c7b0 : ((l1.length : Int) == 4) = true := beq_iff_eq.mpr hl
 have c7b1 : ((l1.length : Int) != 4) = false := bne_eq_false_iff_eq.mpr hl
 have HA := Aside0.mk (fo_isReg a0_2 true (by simp [hA]))
 have HBB := Aside0.mk (fo_isReg a0_3 true (by simp [hB]))
 have e0 : (0 ≤ a0_2) = True := eq_true hA.1
 have e1 : (a0_2 < (l1.length : Int)) = True := eq_true (by omega)
 have e0b : decide (0 ≤ a0_2) = true := decide_eq_true hA.1
 have e1b : decide (a0_2 < (l1.length : Int)) = true := decide_eq_true (by omega)
 have e2 : (0 ≤ a0_3) = True := eq_true hB.1
 have e3 : (a0_3 < (l1.length : Int)) = True := eq_true (by omega)
 have e2b : decide (0 ≤ a0_3) = true := decide_eq_true hB.1
 have e3b : decide (a0_3 < (l1.length : Int)) = true := decide_eq_true (by omega)
 have o2 : (a0_0 == 2) = false := beq_eq_false_iff_ne.mpr (by omega)
 have o3 : (a0_0 == 3) = true := beq_iff_eq.mpr ho
 have o4 : (a0_0 == 4) = false := beq_eq_false_iff_ne.mpr (by omega)
 have o12 : (a0_0 == 12) = false := beq_eq_false_iff_ne.mpr (by omega)
 have HF := Aside0.mk (fo_comp a0_0 va vb)
 subst hkbf
 have HW := Aside0.mk (fo_within (foComp a0_0 va vb) false (by simp [hw]))
 clear ho hw
 clear hA hB hl
 go_enter Try.func54, Try.ntmps54
 go_wp2_with (first | (go_at_call 76; (with_reducible refine (HA.out _).mono ?_); rintro e w' ⟨rfl, ⟨nd, rfl⟩⟩) | (go_at_call 76; (with_reducible refine (HBB.out _).mono ?_); rintro e w' ⟨rfl, ⟨nd, rfl⟩⟩))
 go_region
 all_goals
  go_wp2_with (first | (go_at_call 77; (with_reducible refine (HF.out _).mono ?_); rintro e w' ⟨rfl, ⟨nd, rfl⟩⟩) | (go_at_call 58; (with_reducible refine (HW.out _).mono ?_); rintro e w' ⟨rfl, ⟨nd, rfl⟩⟩))
  exact bodyPost_ret (v := .agg #[_, _, _, _, _]) (by simp [results, Try.results54, go_sem]) rfl ⟨rfl, by repeat (first | (with_reducible first | exact Below.refl _ _ | apply below_alloc | apply pw_below_drewN | apply below_drew1) | (with_reducible refine below_set ?_ (by first | exact Nat.le_add_right _ _ | exact Nat.le_refl _ | (simp; omega))))⟩

set_option maxHeartbeats 8000000 in
set_option maxRecDepth 100000 in
theorem fo_w3 (a0_0 a0_1 a0_2 a0_3 a0_4 : Int) (A1 : Option Addr) (c1 : Nat) (l1 : List S87) (a2 : Int) (w : World) (hr1 : Kd.C k87 w A1 l1.length l1) (hl : (l1.length : Int) = 4) (hA : (0 ≤ a0_2 ∧ a0_2 ≤ 3)) (hB : (0 ≤ a0_3 ∧ a0_3 ≤ 3)) (kb : Bool) (va vb : Int) (hK : (rd_T87 l1 a0_2).f0 = true) (hva : (rd_T87 l1 a0_2).f1 = va) (hkb : (rd_T87 l1 a0_3).f0 = kb) (hvb : (rd_T87 l1 a0_3).f1 = vb) (ho : a0_0 = 3) (hkbf : kb = true) (hw : (-1000000000 ≤ foComp a0_0 va vb ∧ foComp a0_0 va vb ≤ 1000000000)) :
  Calls Try.prog 54 #[.agg #[.int .i64 a0_0, .int .i64 a0_1, .int .i64 a0_2, .int .i64 a0_3, .int .i64 a0_4], .slice A1 l1.length c1, .int .i64 a2] w fun e w' => e = .returned (.agg #[Value.int .i64 1, .int .i64 a0_1, .int .i64 0, .int .i64 0, .int .i64 (foComp a0_0 va vb)]) ∧ Below w.heap.size w w' := by
 have hu35 := Try.underlying35
 have hu87 := Try.underlying87
 obtain ⟨ad, e, hx0, hy0⟩ := at_T87 hr1 a0_2 hA.1 (by omega)
 cases e
 obtain ⟨ad', e, hp0, hq0⟩ := at_T87 hr1 a0_3 hB.1 (by omega)
 cases e
 rw [hK] at hx0
 rw [hva] at hy0
 rw [hkb] at hp0
 rw [hvb] at hq0
 clear hr1 hK hva hkb hvb
 have hx : ((w.alloc (.cells #[.int .i64 a0_0, .int .i64 a0_1, .int .i64 a0_2, .int .i64 a0_3, .int .i64 a0_4] 35)).alloc (.cells #[.int .i64 0, .int .i64 0, .int .i64 0, .int .i64 0, .int .i64 0] 35)).cell? (ad.add (a0_2.toNat * 2)) = some (.bool true) := by rw [World.cell?_alloc_some _ _ _ (by rw [World.cell?_alloc_some _ _ _ (by rw [hx0]; rfl), hx0]; rfl), World.cell?_alloc_some _ _ _ (by rw [hx0]; rfl), hx0]
 have hy : ((w.alloc (.cells #[.int .i64 a0_0, .int .i64 a0_1, .int .i64 a0_2, .int .i64 a0_3, .int .i64 a0_4] 35)).alloc (.cells #[.int .i64 0, .int .i64 0, .int .i64 0, .int .i64 0, .int .i64 0] 35)).cell? ⟨(ad.add (a0_2.toNat * 2)).block, (ad.add (a0_2.toNat * 2)).off + 1, none⟩ = some (.int .i64 va) := by rw [World.cell?_alloc_some _ _ _ (by rw [World.cell?_alloc_some _ _ _ (by rw [hy0]; rfl), hy0]; rfl), World.cell?_alloc_some _ _ _ (by rw [hy0]; rfl), hy0]
 have hp : ((w.alloc (.cells #[.int .i64 a0_0, .int .i64 a0_1, .int .i64 a0_2, .int .i64 a0_3, .int .i64 a0_4] 35)).alloc (.cells #[.int .i64 0, .int .i64 0, .int .i64 0, .int .i64 0, .int .i64 0] 35)).cell? (ad.add (a0_3.toNat * 2)) = some (.bool kb) := by rw [World.cell?_alloc_some _ _ _ (by rw [World.cell?_alloc_some _ _ _ (by rw [hp0]; rfl), hp0]; rfl), World.cell?_alloc_some _ _ _ (by rw [hp0]; rfl), hp0]
 have hq : ((w.alloc (.cells #[.int .i64 a0_0, .int .i64 a0_1, .int .i64 a0_2, .int .i64 a0_3, .int .i64 a0_4] 35)).alloc (.cells #[.int .i64 0, .int .i64 0, .int .i64 0, .int .i64 0, .int .i64 0] 35)).cell? ⟨(ad.add (a0_3.toNat * 2)).block, (ad.add (a0_3.toNat * 2)).off + 1, none⟩ = some (.int .i64 vb) := by rw [World.cell?_alloc_some _ _ _ (by rw [World.cell?_alloc_some _ _ _ (by rw [hq0]; rfl), hq0]; rfl), World.cell?_alloc_some _ _ _ (by rw [hq0]; rfl), hq0]
 have hxU : ∀ n o o', (((((w.alloc (.cells #[.int .i64 a0_0, .int .i64 a0_1, .int .i64 a0_2, .int .i64 a0_3, .int .i64 a0_4] 35)).alloc (.cells #[.int .i64 0, .int .i64 0, .int .i64 0, .int .i64 0, .int .i64 0] 35)).drewN n).alloc o).alloc o').cell? (ad.add (a0_2.toNat * 2)) = some (.bool true) := by intro n o o'; rw [World.cell?_alloc_some _ _ _ (by rw [World.cell?_alloc_some _ _ _ (by first | (show (((w.alloc (.cells #[.int .i64 a0_0, .int .i64 a0_1, .int .i64 a0_2, .int .i64 a0_3, .int .i64 a0_4] 35)).alloc (.cells #[.int .i64 0, .int .i64 0, .int .i64 0, .int .i64 0, .int .i64 0] 35)).cell? _).isSome = true; rw [hx]; rfl))]; first | (show (((w.alloc (.cells #[.int .i64 a0_0, .int .i64 a0_1, .int .i64 a0_2, .int .i64 a0_3, .int .i64 a0_4] 35)).alloc (.cells #[.int .i64 0, .int .i64 0, .int .i64 0, .int .i64 0, .int .i64 0] 35)).cell? _).isSome = true; rw [hx]; rfl)), World.cell?_alloc_some _ _ _ (by first | (show (((w.alloc (.cells #[.int .i64 a0_0, .int .i64 a0_1, .int .i64 a0_2, .int .i64 a0_3, .int .i64 a0_4] 35)).alloc (.cells #[.int .i64 0, .int .i64 0, .int .i64 0, .int .i64 0, .int .i64 0] 35)).cell? _).isSome = true; rw [hx]; rfl))]; exact hx
 have hyU : ∀ n o o', (((((w.alloc (.cells #[.int .i64 a0_0, .int .i64 a0_1, .int .i64 a0_2, .int .i64 a0_3, .int .i64 a0_4] 35)).alloc (.cells #[.int .i64 0, .int .i64 0, .int .i64 0, .int .i64 0, .int .i64 0] 35)).drewN n).alloc o).alloc o').cell? ⟨(ad.add (a0_2.toNat * 2)).block, (ad.add (a0_2.toNat * 2)).off + 1, none⟩ = some (.int .i64 va) := by intro n o o'; rw [World.cell?_alloc_some _ _ _ (by rw [World.cell?_alloc_some _ _ _ (by first | (show (((w.alloc (.cells #[.int .i64 a0_0, .int .i64 a0_1, .int .i64 a0_2, .int .i64 a0_3, .int .i64 a0_4] 35)).alloc (.cells #[.int .i64 0, .int .i64 0, .int .i64 0, .int .i64 0, .int .i64 0] 35)).cell? _).isSome = true; rw [hy]; rfl))]; first | (show (((w.alloc (.cells #[.int .i64 a0_0, .int .i64 a0_1, .int .i64 a0_2, .int .i64 a0_3, .int .i64 a0_4] 35)).alloc (.cells #[.int .i64 0, .int .i64 0, .int .i64 0, .int .i64 0, .int .i64 0] 35)).cell? _).isSome = true; rw [hy]; rfl)), World.cell?_alloc_some _ _ _ (by first | (show (((w.alloc (.cells #[.int .i64 a0_0, .int .i64 a0_1, .int .i64 a0_2, .int .i64 a0_3, .int .i64 a0_4] 35)).alloc (.cells #[.int .i64 0, .int .i64 0, .int .i64 0, .int .i64 0, .int .i64 0] 35)).cell? _).isSome = true; rw [hy]; rfl))]; exact hy
 have hpU : ∀ n o o', (((((w.alloc (.cells #[.int .i64 a0_0, .int .i64 a0_1, .int .i64 a0_2, .int .i64 a0_3, .int .i64 a0_4] 35)).alloc (.cells #[.int .i64 0, .int .i64 0, .int .i64 0, .int .i64 0, .int .i64 0] 35)).drewN n).alloc o).alloc o').cell? (ad.add (a0_3.toNat * 2)) = some (.bool kb) := by intro n o o'; rw [World.cell?_alloc_some _ _ _ (by rw [World.cell?_alloc_some _ _ _ (by first | (show (((w.alloc (.cells #[.int .i64 a0_0, .int .i64 a0_1, .int .i64 a0_2, .int .i64 a0_3, .int .i64 a0_4] 35)).alloc (.cells #[.int .i64 0, .int .i64 0, .int .i64 0, .int .i64 0, .int .i64 0] 35)).cell? _).isSome = true; rw [hp]; rfl))]; first | (show (((w.alloc (.cells #[.int .i64 a0_0, .int .i64 a0_1, .int .i64 a0_2, .int .i64 a0_3, .int .i64 a0_4] 35)).alloc (.cells #[.int .i64 0, .int .i64 0, .int .i64 0, .int .i64 0, .int .i64 0] 35)).cell? _).isSome = true; rw [hp]; rfl)), World.cell?_alloc_some _ _ _ (by first | (show (((w.alloc (.cells #[.int .i64 a0_0, .int .i64 a0_1, .int .i64 a0_2, .int .i64 a0_3, .int .i64 a0_4] 35)).alloc (.cells #[.int .i64 0, .int .i64 0, .int .i64 0, .int .i64 0, .int .i64 0] 35)).cell? _).isSome = true; rw [hp]; rfl))]; exact hp
 have hqU : ∀ n o o', (((((w.alloc (.cells #[.int .i64 a0_0, .int .i64 a0_1, .int .i64 a0_2, .int .i64 a0_3, .int .i64 a0_4] 35)).alloc (.cells #[.int .i64 0, .int .i64 0, .int .i64 0, .int .i64 0, .int .i64 0] 35)).drewN n).alloc o).alloc o').cell? ⟨(ad.add (a0_3.toNat * 2)).block, (ad.add (a0_3.toNat * 2)).off + 1, none⟩ = some (.int .i64 vb) := by intro n o o'; rw [World.cell?_alloc_some _ _ _ (by rw [World.cell?_alloc_some _ _ _ (by first | (show (((w.alloc (.cells #[.int .i64 a0_0, .int .i64 a0_1, .int .i64 a0_2, .int .i64 a0_3, .int .i64 a0_4] 35)).alloc (.cells #[.int .i64 0, .int .i64 0, .int .i64 0, .int .i64 0, .int .i64 0] 35)).cell? _).isSome = true; rw [hq]; rfl))]; first | (show (((w.alloc (.cells #[.int .i64 a0_0, .int .i64 a0_1, .int .i64 a0_2, .int .i64 a0_3, .int .i64 a0_4] 35)).alloc (.cells #[.int .i64 0, .int .i64 0, .int .i64 0, .int .i64 0, .int .i64 0] 35)).cell? _).isSome = true; rw [hq]; rfl)), World.cell?_alloc_some _ _ _ (by first | (show (((w.alloc (.cells #[.int .i64 a0_0, .int .i64 a0_1, .int .i64 a0_2, .int .i64 a0_3, .int .i64 a0_4] 35)).alloc (.cells #[.int .i64 0, .int .i64 0, .int .i64 0, .int .i64 0, .int .i64 0] 35)).cell? _).isSome = true; rw [hq]; rfl))]; exact hq
 have hxV : ∀ n o, ((((w.alloc (.cells #[.int .i64 a0_0, .int .i64 a0_1, .int .i64 a0_2, .int .i64 a0_3, .int .i64 a0_4] 35)).alloc (.cells #[.int .i64 0, .int .i64 0, .int .i64 0, .int .i64 0, .int .i64 0] 35)).drewN n).alloc o).cell? (ad.add (a0_2.toNat * 2)) = some (.bool true) := by intro n o; rw [World.cell?_alloc_some _ _ _ (by first | (show (((w.alloc (.cells #[.int .i64 a0_0, .int .i64 a0_1, .int .i64 a0_2, .int .i64 a0_3, .int .i64 a0_4] 35)).alloc (.cells #[.int .i64 0, .int .i64 0, .int .i64 0, .int .i64 0, .int .i64 0] 35)).cell? _).isSome = true; rw [hx]; rfl))]; exact hx
 have hyV : ∀ n o, ((((w.alloc (.cells #[.int .i64 a0_0, .int .i64 a0_1, .int .i64 a0_2, .int .i64 a0_3, .int .i64 a0_4] 35)).alloc (.cells #[.int .i64 0, .int .i64 0, .int .i64 0, .int .i64 0, .int .i64 0] 35)).drewN n).alloc o).cell? ⟨(ad.add (a0_2.toNat * 2)).block, (ad.add (a0_2.toNat * 2)).off + 1, none⟩ = some (.int .i64 va) := by intro n o; rw [World.cell?_alloc_some _ _ _ (by first | (show (((w.alloc (.cells #[.int .i64 a0_0, .int .i64 a0_1, .int .i64 a0_2, .int .i64 a0_3, .int .i64 a0_4] 35)).alloc (.cells #[.int .i64 0, .int .i64 0, .int .i64 0, .int .i64 0, .int .i64 0] 35)).cell? _).isSome = true; rw [hy]; rfl))]; exact hy
 have hpV : ∀ n o, ((((w.alloc (.cells #[.int .i64 a0_0, .int .i64 a0_1, .int .i64 a0_2, .int .i64 a0_3, .int .i64 a0_4] 35)).alloc (.cells #[.int .i64 0, .int .i64 0, .int .i64 0, .int .i64 0, .int .i64 0] 35)).drewN n).alloc o).cell? (ad.add (a0_3.toNat * 2)) = some (.bool kb) := by intro n o; rw [World.cell?_alloc_some _ _ _ (by first | (show (((w.alloc (.cells #[.int .i64 a0_0, .int .i64 a0_1, .int .i64 a0_2, .int .i64 a0_3, .int .i64 a0_4] 35)).alloc (.cells #[.int .i64 0, .int .i64 0, .int .i64 0, .int .i64 0, .int .i64 0] 35)).cell? _).isSome = true; rw [hp]; rfl))]; exact hp
 have hqV : ∀ n o, ((((w.alloc (.cells #[.int .i64 a0_0, .int .i64 a0_1, .int .i64 a0_2, .int .i64 a0_3, .int .i64 a0_4] 35)).alloc (.cells #[.int .i64 0, .int .i64 0, .int .i64 0, .int .i64 0, .int .i64 0] 35)).drewN n).alloc o).cell? ⟨(ad.add (a0_3.toNat * 2)).block, (ad.add (a0_3.toNat * 2)).off + 1, none⟩ = some (.int .i64 vb) := by intro n o; rw [World.cell?_alloc_some _ _ _ (by first | (show (((w.alloc (.cells #[.int .i64 a0_0, .int .i64 a0_1, .int .i64 a0_2, .int .i64 a0_3, .int .i64 a0_4] 35)).alloc (.cells #[.int .i64 0, .int .i64 0, .int .i64 0, .int .i64 0, .int .i64 0] 35)).cell? _).isSome = true; rw [hq]; rfl))]; exact hq
 clear hx0 hy0 hp0 hq0
 have c7b0 : ((l1.length : Int) == 4) = true := beq_iff_eq.mpr hl
 have c7b1 : ((l1.length : Int) != 4) = false := bne_eq_false_iff_eq.mpr hl
 have HA := Aside0.mk (fo_isReg a0_2 true (by simp [hA]))
 have HBB := Aside0.mk (fo_isReg a0_3 true (by simp [hB]))
 have e0 : (0 ≤ a0_2) = True := eq_true hA.1
 have e1 : (a0_2 < (l1.length : Int)) = True := eq_true (by omega)
 have e0b : decide (0 ≤ a0_2) = true := decide_eq_true hA.1
 have e1b : decide (a0_2 < (l1.length : Int)) = true := decide_eq_true (by omega)
 have e2 : (0 ≤ a0_3) = True := eq_true hB.1
 have e3 : (a0_3 < (l1.length : Int)) = True := eq_true (by omega)
 have e2b : decide (0 ≤ a0_3) = true := decide_eq_true hB.1
 have e3b : decide (a0_3 < (l1.length : Int)) = true := decide_eq_true (by omega)
 have o2 : (a0_0 == 2) = false := beq_eq_false_iff_ne.mpr (by omega)
 have o3 : (a0_0 == 3) = true := beq_iff_eq.mpr ho
 have o4 : (a0_0 == 4) = false := beq_eq_false_iff_ne.mpr (by omega)
 have o12 : (a0_0 == 12) = false := beq_eq_false_iff_ne.mpr (by omega)
 have HF := Aside0.mk (fo_comp a0_0 va vb)
 subst hkbf
 have HW := Aside0.mk (fo_within (foComp a0_0 va vb) true (by simp [hw]))
 clear ho hw
 clear hA hB hl
 go_enter Try.func54, Try.ntmps54
 go_wp2_with (first | (go_at_call 76; (with_reducible refine (HA.out _).mono ?_); rintro e w' ⟨rfl, ⟨nd, rfl⟩⟩) | (go_at_call 76; (with_reducible refine (HBB.out _).mono ?_); rintro e w' ⟨rfl, ⟨nd, rfl⟩⟩))
 go_region
 all_goals
  go_wp2_with (first | (go_at_call 77; (with_reducible refine (HF.out _).mono ?_); rintro e w' ⟨rfl, ⟨nd, rfl⟩⟩) | (go_at_call 58; (with_reducible refine (HW.out _).mono ?_); rintro e w' ⟨rfl, ⟨nd, rfl⟩⟩))
  exact bodyPost_ret (v := .agg #[_, _, _, _, _]) (by simp [results, Try.results54, go_sem]) rfl ⟨rfl, by repeat (first | (with_reducible first | exact Below.refl _ _ | apply below_alloc | apply pw_below_drewN | apply below_drew1) | (with_reducible refine below_set ?_ (by first | exact Nat.le_add_right _ _ | exact Nat.le_refl _ | (simp; omega))))⟩

set_option maxHeartbeats 8000000 in
set_option maxRecDepth 100000 in
theorem fo_u4 (a0_0 a0_1 a0_2 a0_3 a0_4 : Int) (A1 : Option Addr) (c1 : Nat) (l1 : List S87) (a2 : Int) (w : World) (hr1 : Kd.C k87 w A1 l1.length l1) (hl : (l1.length : Int) = 4) (hA : (0 ≤ a0_2 ∧ a0_2 ≤ 3)) (hB : (0 ≤ a0_3 ∧ a0_3 ≤ 3)) (kb : Bool) (va vb : Int) (hK : (rd_T87 l1 a0_2).f0 = true) (hva : (rd_T87 l1 a0_2).f1 = va) (hkb : (rd_T87 l1 a0_3).f0 = kb) (hvb : (rd_T87 l1 a0_3).f1 = vb) (ho : a0_0 = 4) (hkbf : kb = false) :
  Calls Try.prog 54 #[.agg #[.int .i64 a0_0, .int .i64 a0_1, .int .i64 a0_2, .int .i64 a0_3, .int .i64 a0_4], .slice A1 l1.length c1, .int .i64 a2] w fun e w' => e = .returned (.agg #[Value.int .i64 a0_0, .int .i64 a0_1, .int .i64 a0_2, .int .i64 a0_3, .int .i64 a0_4]) ∧ Below w.heap.size w w' := by
 have hu35 := Try.underlying35
 have hu87 := Try.underlying87
 obtain ⟨ad, e, hx0, hy0⟩ := at_T87 hr1 a0_2 hA.1 (by omega)
 cases e
 obtain ⟨ad', e, hp0, hq0⟩ := at_T87 hr1 a0_3 hB.1 (by omega)
 cases e
 rw [hK] at hx0
 rw [hva] at hy0
 rw [hkb] at hp0
 rw [hvb] at hq0
 clear hr1 hK hva hkb hvb
 have hx : ((w.alloc (.cells #[.int .i64 a0_0, .int .i64 a0_1, .int .i64 a0_2, .int .i64 a0_3, .int .i64 a0_4] 35)).alloc (.cells #[.int .i64 0, .int .i64 0, .int .i64 0, .int .i64 0, .int .i64 0] 35)).cell? (ad.add (a0_2.toNat * 2)) = some (.bool true) := by rw [World.cell?_alloc_some _ _ _ (by rw [World.cell?_alloc_some _ _ _ (by rw [hx0]; rfl), hx0]; rfl), World.cell?_alloc_some _ _ _ (by rw [hx0]; rfl), hx0]
 have hy : ((w.alloc (.cells #[.int .i64 a0_0, .int .i64 a0_1, .int .i64 a0_2, .int .i64 a0_3, .int .i64 a0_4] 35)).alloc (.cells #[.int .i64 0, .int .i64 0, .int .i64 0, .int .i64 0, .int .i64 0] 35)).cell? ⟨(ad.add (a0_2.toNat * 2)).block, (ad.add (a0_2.toNat * 2)).off + 1, none⟩ = some (.int .i64 va) := by rw [World.cell?_alloc_some _ _ _ (by rw [World.cell?_alloc_some _ _ _ (by rw [hy0]; rfl), hy0]; rfl), World.cell?_alloc_some _ _ _ (by rw [hy0]; rfl), hy0]
 have hp : ((w.alloc (.cells #[.int .i64 a0_0, .int .i64 a0_1, .int .i64 a0_2, .int .i64 a0_3, .int .i64 a0_4] 35)).alloc (.cells #[.int .i64 0, .int .i64 0, .int .i64 0, .int .i64 0, .int .i64 0] 35)).cell? (ad.add (a0_3.toNat * 2)) = some (.bool kb) := by rw [World.cell?_alloc_some _ _ _ (by rw [World.cell?_alloc_some _ _ _ (by rw [hp0]; rfl), hp0]; rfl), World.cell?_alloc_some _ _ _ (by rw [hp0]; rfl), hp0]
 have hq : ((w.alloc (.cells #[.int .i64 a0_0, .int .i64 a0_1, .int .i64 a0_2, .int .i64 a0_3, .int .i64 a0_4] 35)).alloc (.cells #[.int .i64 0, .int .i64 0, .int .i64 0, .int .i64 0, .int .i64 0] 35)).cell? ⟨(ad.add (a0_3.toNat * 2)).block, (ad.add (a0_3.toNat * 2)).off + 1, none⟩ = some (.int .i64 vb) := by rw [World.cell?_alloc_some _ _ _ (by rw [World.cell?_alloc_some _ _ _ (by rw [hq0]; rfl), hq0]; rfl), World.cell?_alloc_some _ _ _ (by rw [hq0]; rfl), hq0]
 have hxU : ∀ n o o', (((((w.alloc (.cells #[.int .i64 a0_0, .int .i64 a0_1, .int .i64 a0_2, .int .i64 a0_3, .int .i64 a0_4] 35)).alloc (.cells #[.int .i64 0, .int .i64 0, .int .i64 0, .int .i64 0, .int .i64 0] 35)).drewN n).alloc o).alloc o').cell? (ad.add (a0_2.toNat * 2)) = some (.bool true) := by intro n o o'; rw [World.cell?_alloc_some _ _ _ (by rw [World.cell?_alloc_some _ _ _ (by first | (show (((w.alloc (.cells #[.int .i64 a0_0, .int .i64 a0_1, .int .i64 a0_2, .int .i64 a0_3, .int .i64 a0_4] 35)).alloc (.cells #[.int .i64 0, .int .i64 0, .int .i64 0, .int .i64 0, .int .i64 0] 35)).cell? _).isSome = true; rw [hx]; rfl))]; first | (show (((w.alloc (.cells #[.int .i64 a0_0, .int .i64 a0_1, .int .i64 a0_2, .int .i64 a0_3, .int .i64 a0_4] 35)).alloc (.cells #[.int .i64 0, .int .i64 0, .int .i64 0, .int .i64 0, .int .i64 0] 35)).cell? _).isSome = true; rw [hx]; rfl)), World.cell?_alloc_some _ _ _ (by first | (show (((w.alloc (.cells #[.int .i64 a0_0, .int .i64 a0_1, .int .i64 a0_2, .int .i64 a0_3, .int .i64 a0_4] 35)).alloc (.cells #[.int .i64 0, .int .i64 0, .int .i64 0, .int .i64 0, .int .i64 0] 35)).cell? _).isSome = true; rw [hx]; rfl))]; exact hx
 have hyU : ∀ n o o', (((((w.alloc (.cells #[.int .i64 a0_0, .int .i64 a0_1, .int .i64 a0_2, .int .i64 a0_3, .int .i64 a0_4] 35)).alloc (.cells #[.int .i64 0, .int .i64 0, .int .i64 0, .int .i64 0, .int .i64 0] 35)).drewN n).alloc o).alloc o').cell? ⟨(ad.add (a0_2.toNat * 2)).block, (ad.add (a0_2.toNat * 2)).off + 1, none⟩ = some (.int .i64 va) := by intro n o o'; rw [World.cell?_alloc_some _ _ _ (by rw [World.cell?_alloc_some _ _ _ (by first | (show (((w.alloc (.cells #[.int .i64 a0_0, .int .i64 a0_1, .int .i64 a0_2, .int .i64 a0_3, .int .i64 a0_4] 35)).alloc (.cells #[.int .i64 0, .int .i64 0, .int .i64 0, .int .i64 0, .int .i64 0] 35)).cell? _).isSome = true; rw [hy]; rfl))]; first | (show (((w.alloc (.cells #[.int .i64 a0_0, .int .i64 a0_1, .int .i64 a0_2, .int .i64 a0_3, .int .i64 a0_4] 35)).alloc (.cells #[.int .i64 0, .int .i64 0, .int .i64 0, .int .i64 0, .int .i64 0] 35)).cell? _).isSome = true; rw [hy]; rfl)), World.cell?_alloc_some _ _ _ (by first | (show (((w.alloc (.cells #[.int .i64 a0_0, .int .i64 a0_1, .int .i64 a0_2, .int .i64 a0_3, .int .i64 a0_4] 35)).alloc (.cells #[.int .i64 0, .int .i64 0, .int .i64 0, .int .i64 0, .int .i64 0] 35)).cell? _).isSome = true; rw [hy]; rfl))]; exact hy
 have hpU : ∀ n o o', (((((w.alloc (.cells #[.int .i64 a0_0, .int .i64 a0_1, .int .i64 a0_2, .int .i64 a0_3, .int .i64 a0_4] 35)).alloc (.cells #[.int .i64 0, .int .i64 0, .int .i64 0, .int .i64 0, .int .i64 0] 35)).drewN n).alloc o).alloc o').cell? (ad.add (a0_3.toNat * 2)) = some (.bool kb) := by intro n o o'; rw [World.cell?_alloc_some _ _ _ (by rw [World.cell?_alloc_some _ _ _ (by first | (show (((w.alloc (.cells #[.int .i64 a0_0, .int .i64 a0_1, .int .i64 a0_2, .int .i64 a0_3, .int .i64 a0_4] 35)).alloc (.cells #[.int .i64 0, .int .i64 0, .int .i64 0, .int .i64 0, .int .i64 0] 35)).cell? _).isSome = true; rw [hp]; rfl))]; first | (show (((w.alloc (.cells #[.int .i64 a0_0, .int .i64 a0_1, .int .i64 a0_2, .int .i64 a0_3, .int .i64 a0_4] 35)).alloc (.cells #[.int .i64 0, .int .i64 0, .int .i64 0, .int .i64 0, .int .i64 0] 35)).cell? _).isSome = true; rw [hp]; rfl)), World.cell?_alloc_some _ _ _ (by first | (show (((w.alloc (.cells #[.int .i64 a0_0, .int .i64 a0_1, .int .i64 a0_2, .int .i64 a0_3, .int .i64 a0_4] 35)).alloc (.cells #[.int .i64 0, .int .i64 0, .int .i64 0, .int .i64 0, .int .i64 0] 35)).cell? _).isSome = true; rw [hp]; rfl))]; exact hp
 have hqU : ∀ n o o', (((((w.alloc (.cells #[.int .i64 a0_0, .int .i64 a0_1, .int .i64 a0_2, .int .i64 a0_3, .int .i64 a0_4] 35)).alloc (.cells #[.int .i64 0, .int .i64 0, .int .i64 0, .int .i64 0, .int .i64 0] 35)).drewN n).alloc o).alloc o').cell? ⟨(ad.add (a0_3.toNat * 2)).block, (ad.add (a0_3.toNat * 2)).off + 1, none⟩ = some (.int .i64 vb) := by intro n o o'; rw [World.cell?_alloc_some _ _ _ (by rw [World.cell?_alloc_some _ _ _ (by first | (show (((w.alloc (.cells #[.int .i64 a0_0, .int .i64 a0_1, .int .i64 a0_2, .int .i64 a0_3, .int .i64 a0_4] 35)).alloc (.cells #[.int .i64 0, .int .i64 0, .int .i64 0, .int .i64 0, .int .i64 0] 35)).cell? _).isSome = true; rw [hq]; rfl))]; first | (show (((w.alloc (.cells #[.int .i64 a0_0, .int .i64 a0_1, .int .i64 a0_2, .int .i64 a0_3, .int .i64 a0_4] 35)).alloc (.cells #[.int .i64 0, .int .i64 0, .int .i64 0, .int .i64 0, .int .i64 0] 35)).cell? _).isSome = true; rw [hq]; rfl)), World.cell?_alloc_some _ _ _ (by first | (show (((w.alloc (.cells #[.int .i64 a0_0, .int .i64 a0_1, .int .i64 a0_2, .int .i64 a0_3, .int .i64 a0_4] 35)).alloc (.cells #[.int .i64 0, .int .i64 0, .int .i64 0, .int .i64 0, .int .i64 0] 35)).cell? _).isSome = true; rw [hq]; rfl))]; exact hq
 have hxV : ∀ n o, ((((w.alloc (.cells #[.int .i64 a0_0, .int .i64 a0_1, .int .i64 a0_2, .int .i64 a0_3, .int .i64 a0_4] 35)).alloc (.cells #[.int .i64 0, .int .i64 0, .int .i64 0, .int .i64 0, .int .i64 0] 35)).drewN n).alloc o).cell? (ad.add (a0_2.toNat * 2)) = some (.bool true) := by intro n o; rw [World.cell?_alloc_some _ _ _ (by first | (show (((w.alloc (.cells #[.int .i64 a0_0, .int .i64 a0_1, .int .i64 a0_2, .int .i64 a0_3, .int .i64 a0_4] 35)).alloc (.cells #[.int .i64 0, .int .i64 0, .int .i64 0, .int .i64 0, .int .i64 0] 35)).cell? _).isSome = true; rw [hx]; rfl))]; exact hx
 have hyV : ∀ n o, ((((w.alloc (.cells #[.int .i64 a0_0, .int .i64 a0_1, .int .i64 a0_2, .int .i64 a0_3, .int .i64 a0_4] 35)).alloc (.cells #[.int .i64 0, .int .i64 0, .int .i64 0, .int .i64 0, .int .i64 0] 35)).drewN n).alloc o).cell? ⟨(ad.add (a0_2.toNat * 2)).block, (ad.add (a0_2.toNat * 2)).off + 1, none⟩ = some (.int .i64 va) := by intro n o; rw [World.cell?_alloc_some _ _ _ (by first | (show (((w.alloc (.cells #[.int .i64 a0_0, .int .i64 a0_1, .int .i64 a0_2, .int .i64 a0_3, .int .i64 a0_4] 35)).alloc (.cells #[.int .i64 0, .int .i64 0, .int .i64 0, .int .i64 0, .int .i64 0] 35)).cell? _).isSome = true; rw [hy]; rfl))]; exact hy
 have hpV : ∀ n o, ((((w.alloc (.cells #[.int .i64 a0_0, .int .i64 a0_1, .int .i64 a0_2, .int .i64 a0_3, .int .i64 a0_4] 35)).alloc (.cells #[.int .i64 0, .int .i64 0, .int .i64 0, .int .i64 0, .int .i64 0] 35)).drewN n).alloc o).cell? (ad.add (a0_3.toNat * 2)) = some (.bool kb) := by intro n o; rw [World.cell?_alloc_some _ _ _ (by first | (show (((w.alloc (.cells #[.int .i64 a0_0, .int .i64 a0_1, .int .i64 a0_2, .int .i64 a0_3, .int .i64 a0_4] 35)).alloc (.cells #[.int .i64 0, .int .i64 0, .int .i64 0, .int .i64 0, .int .i64 0] 35)).cell? _).isSome = true; rw [hp]; rfl))]; exact hp
 have hqV : ∀ n o, ((((w.alloc (.cells #[.int .i64 a0_0, .int .i64 a0_1, .int .i64 a0_2, .int .i64 a0_3, .int .i64 a0_4] 35)).alloc (.cells #[.int .i64 0, .int .i64 0, .int .i64 0, .int .i64 0, .int .i64 0] 35)).drewN n).alloc o).cell? ⟨(ad.add (a0_3.toNat * 2)).block, (ad.add (a0_3.toNat * 2)).off + 1, none⟩ = some (.int .i64 vb) := by intro n o; rw [World.cell?_alloc_some _ _ _ (by first | (show (((w.alloc (.cells #[.int .i64 a0_0, .int .i64 a0_1, .int .i64 a0_2, .int .i64 a0_3, .int .i64 a0_4] 35)).alloc (.cells #[.int .i64 0, .int .i64 0, .int .i64 0, .int .i64 0, .int .i64 0] 35)).cell? _).isSome = true; rw [hq]; rfl))]; exact hq
 clear hx0 hy0 hp0 hq0
 have c7b0 : ((l1.length : Int) == 4) = true := beq_iff_eq.mpr hl
 have c7b1 : ((l1.length : Int) != 4) = false := bne_eq_false_iff_eq.mpr hl
 have HA := Aside0.mk (fo_isReg a0_2 true (by simp [hA]))
 have HBB := Aside0.mk (fo_isReg a0_3 true (by simp [hB]))
 have e0 : (0 ≤ a0_2) = True := eq_true hA.1
 have e1 : (a0_2 < (l1.length : Int)) = True := eq_true (by omega)
 have e0b : decide (0 ≤ a0_2) = true := decide_eq_true hA.1
 have e1b : decide (a0_2 < (l1.length : Int)) = true := decide_eq_true (by omega)
 have e2 : (0 ≤ a0_3) = True := eq_true hB.1
 have e3 : (a0_3 < (l1.length : Int)) = True := eq_true (by omega)
 have e2b : decide (0 ≤ a0_3) = true := decide_eq_true hB.1
 have e3b : decide (a0_3 < (l1.length : Int)) = true := decide_eq_true (by omega)
 have o2 : (a0_0 == 2) = false := beq_eq_false_iff_ne.mpr (by omega)
 have o3 : (a0_0 == 3) = false := beq_eq_false_iff_ne.mpr (by omega)
 have o4 : (a0_0 == 4) = true := beq_iff_eq.mpr ho
 have o12 : (a0_0 == 12) = false := beq_eq_false_iff_ne.mpr (by omega)
 have HF := Aside0.mk (fo_comp a0_0 va vb)
 subst hkbf
 clear ho
 clear hA hB hl
 go_enter Try.func54, Try.ntmps54
 go_wp2_with (first | (go_at_call 76; (with_reducible refine (HA.out _).mono ?_); rintro e w' ⟨rfl, ⟨nd, rfl⟩⟩) | (go_at_call 76; (with_reducible refine (HBB.out _).mono ?_); rintro e w' ⟨rfl, ⟨nd, rfl⟩⟩))
 go_region
 all_goals
  go_wp2_with (first | (go_at_call 77; (with_reducible refine (HF.out _).mono ?_); rintro e w' ⟨rfl, ⟨nd, rfl⟩⟩))
  exact bodyPost_ret (v := .agg #[_, _, _, _, _]) (by simp [results, Try.results54, go_sem]) rfl ⟨rfl, by repeat (first | (with_reducible first | exact Below.refl _ _ | apply below_alloc | apply pw_below_drewN | apply below_drew1) | (with_reducible refine below_set ?_ (by first | exact Nat.le_add_right _ _ | exact Nat.le_refl _ | (simp; omega))))⟩

set_option maxHeartbeats 8000000 in
set_option maxRecDepth 100000 in
theorem fo_v4 (a0_0 a0_1 a0_2 a0_3 a0_4 : Int) (A1 : Option Addr) (c1 : Nat) (l1 : List S87) (a2 : Int) (w : World) (hr1 : Kd.C k87 w A1 l1.length l1) (hl : (l1.length : Int) = 4) (hA : (0 ≤ a0_2 ∧ a0_2 ≤ 3)) (hB : (0 ≤ a0_3 ∧ a0_3 ≤ 3)) (kb : Bool) (va vb : Int) (hK : (rd_T87 l1 a0_2).f0 = true) (hva : (rd_T87 l1 a0_2).f1 = va) (hkb : (rd_T87 l1 a0_3).f0 = kb) (hvb : (rd_T87 l1 a0_3).f1 = vb) (ho : a0_0 = 4) (hkbf : kb = true) (hw : ¬ (-1000000000 ≤ foComp a0_0 va vb ∧ foComp a0_0 va vb ≤ 1000000000)) :
  Calls Try.prog 54 #[.agg #[.int .i64 a0_0, .int .i64 a0_1, .int .i64 a0_2, .int .i64 a0_3, .int .i64 a0_4], .slice A1 l1.length c1, .int .i64 a2] w fun e w' => e = .returned (.agg #[Value.int .i64 a0_0, .int .i64 a0_1, .int .i64 a0_2, .int .i64 a0_3, .int .i64 a0_4]) ∧ Below w.heap.size w w' := by
 have hu35 := Try.underlying35
 have hu87 := Try.underlying87
 obtain ⟨ad, e, hx0, hy0⟩ := at_T87 hr1 a0_2 hA.1 (by omega)
 cases e
 obtain ⟨ad', e, hp0, hq0⟩ := at_T87 hr1 a0_3 hB.1 (by omega)
 cases e
 rw [hK] at hx0
 rw [hva] at hy0
 rw [hkb] at hp0
 rw [hvb] at hq0
 clear hr1 hK hva hkb hvb
 have hx : ((w.alloc (.cells #[.int .i64 a0_0, .int .i64 a0_1, .int .i64 a0_2, .int .i64 a0_3, .int .i64 a0_4] 35)).alloc (.cells #[.int .i64 0, .int .i64 0, .int .i64 0, .int .i64 0, .int .i64 0] 35)).cell? (ad.add (a0_2.toNat * 2)) = some (.bool true) := by rw [World.cell?_alloc_some _ _ _ (by rw [World.cell?_alloc_some _ _ _ (by rw [hx0]; rfl), hx0]; rfl), World.cell?_alloc_some _ _ _ (by rw [hx0]; rfl), hx0]
 have hy : ((w.alloc (.cells #[.int .i64 a0_0, .int .i64 a0_1, .int .i64 a0_2, .int .i64 a0_3, .int .i64 a0_4] 35)).alloc (.cells #[.int .i64 0, .int .i64 0, .int .i64 0, .int .i64 0, .int .i64 0] 35)).cell? ⟨(ad.add (a0_2.toNat * 2)).block, (ad.add (a0_2.toNat * 2)).off + 1, none⟩ = some (.int .i64 va) := by rw [World.cell?_alloc_some _ _ _ (by rw [World.cell?_alloc_some _ _ _ (by rw [hy0]; rfl), hy0]; rfl), World.cell?_alloc_some _ _ _ (by rw [hy0]; rfl), hy0]
 have hp : ((w.alloc (.cells #[.int .i64 a0_0, .int .i64 a0_1, .int .i64 a0_2, .int .i64 a0_3, .int .i64 a0_4] 35)).alloc (.cells #[.int .i64 0, .int .i64 0, .int .i64 0, .int .i64 0, .int .i64 0] 35)).cell? (ad.add (a0_3.toNat * 2)) = some (.bool kb) := by rw [World.cell?_alloc_some _ _ _ (by rw [World.cell?_alloc_some _ _ _ (by rw [hp0]; rfl), hp0]; rfl), World.cell?_alloc_some _ _ _ (by rw [hp0]; rfl), hp0]
 have hq : ((w.alloc (.cells #[.int .i64 a0_0, .int .i64 a0_1, .int .i64 a0_2, .int .i64 a0_3, .int .i64 a0_4] 35)).alloc (.cells #[.int .i64 0, .int .i64 0, .int .i64 0, .int .i64 0, .int .i64 0] 35)).cell? ⟨(ad.add (a0_3.toNat * 2)).block, (ad.add (a0_3.toNat * 2)).off + 1, none⟩ = some (.int .i64 vb) := by rw [World.cell?_alloc_some _ _ _ (by rw [World.cell?_alloc_some _ _ _ (by rw [hq0]; rfl), hq0]; rfl), World.cell?_alloc_some _ _ _ (by rw [hq0]; rfl), hq0]
 have hxU : ∀ n o o', (((((w.alloc (.cells #[.int .i64 a0_0, .int .i64 a0_1, .int .i64 a0_2, .int .i64 a0_3, .int .i64 a0_4] 35)).alloc (.cells #[.int .i64 0, .int .i64 0, .int .i64 0, .int .i64 0, .int .i64 0] 35)).drewN n).alloc o).alloc o').cell? (ad.add (a0_2.toNat * 2)) = some (.bool true) := by intro n o o'; rw [World.cell?_alloc_some _ _ _ (by rw [World.cell?_alloc_some _ _ _ (by first | (show (((w.alloc (.cells #[.int .i64 a0_0, .int .i64 a0_1, .int .i64 a0_2, .int .i64 a0_3, .int .i64 a0_4] 35)).alloc (.cells #[.int .i64 0, .int .i64 0, .int .i64 0, .int .i64 0, .int .i64 0] 35)).cell? _).isSome = true; rw [hx]; rfl))]; first | (show (((w.alloc (.cells #[.int .i64 a0_0, .int .i64 a0_1, .int .i64 a0_2, .int .i64 a0_3, .int .i64 a0_4] 35)).alloc (.cells #[.int .i64 0, .int .i64 0, .int .i64 0, .int .i64 0, .int .i64 0] 35)).cell? _).isSome = true; rw [hx]; rfl)), World.cell?_alloc_some _ _ _ (by first | (show (((w.alloc (.cells #[.int .i64 a0_0, .int .i64 a0_1, .int .i64 a0_2, .int .i64 a0_3, .int .i64 a0_4] 35)).alloc (.cells #[.int .i64 0, .int .i64 0, .int .i64 0, .int .i64 0, .int .i64 0] 35)).cell? _).isSome = true; rw [hx]; rfl))]; exact hx
 have hyU : ∀ n o o', (((((w.alloc (.cells #[.int .i64 a0_0, .int .i64 a0_1, .int .i64 a0_2, .int .i64 a0_3, .int .i64 a0_4] 35)).alloc (.cells #[.int .i64 0, .int .i64 0, .int .i64 0, .int .i64 0, .int .i64 0] 35)).drewN n).alloc o).alloc o').cell? ⟨(ad.add (a0_2.toNat * 2)).block, (ad.add (a0_2.toNat * 2)).off + 1, none⟩ = some (.int .i64 va) := by intro n o o'; rw [World.cell?_alloc_some _ _ _ (by rw [World.cell?_alloc_some _ _ _ (by first | (show (((w.alloc (.cells #[.int .i64 a0_0, .int .i64 a0_1, .int .i64 a0_2, .int .i64 a0_3, .int .i64 a0_4] 35)).alloc (.cells #[.int .i64 0, .int .i64 0, .int .i64 0, .int .i64 0, .int .i64 0] 35)).cell? _).isSome = true; rw [hy]; rfl))]; first | (show (((w.alloc (.cells #[.int .i64 a0_0, .int .i64 a0_1, .int .i64 a0_2, .int .i64 a0_3, .int .i64 a0_4] 35)).alloc (.cells #[.int .i64 0, .int .i64 0, .int .i64 0, .int .i64 0, .int .i64 0] 35)).cell? _).isSome = true; rw [hy]; rfl)), World.cell?_alloc_some _ _ _ (by first | (show (((w.alloc (.cells #[.int .i64 a0_0, .int .i64 a0_1, .int .i64 a0_2, .int .i64 a0_3, .int .i64 a0_4] 35)).alloc (.cells #[.int .i64 0, .int .i64 0, .int .i64 0, .int .i64 0, .int .i64 0] 35)).cell? _).isSome = true; rw [hy]; rfl))]; exact hy
 have hpU : ∀ n o o', (((((w.alloc (.cells #[.int .i64 a0_0, .int .i64 a0_1, .int .i64 a0_2, .int .i64 a0_3, .int .i64 a0_4] 35)).alloc (.cells #[.int .i64 0, .int .i64 0, .int .i64 0, .int .i64 0, .int .i64 0] 35)).drewN n).alloc o).alloc o').cell? (ad.add (a0_3.toNat * 2)) = some (.bool kb) := by intro n o o'; rw [World.cell?_alloc_some _ _ _ (by rw [World.cell?_alloc_some _ _ _ (by first | (show (((w.alloc (.cells #[.int .i64 a0_0, .int .i64 a0_1, .int .i64 a0_2, .int .i64 a0_3, .int .i64 a0_4] 35)).alloc (.cells #[.int .i64 0, .int .i64 0, .int .i64 0, .int .i64 0, .int .i64 0] 35)).cell? _).isSome = true; rw [hp]; rfl))]; first | (show (((w.alloc (.cells #[.int .i64 a0_0, .int .i64 a0_1, .int .i64 a0_2, .int .i64 a0_3, .int .i64 a0_4] 35)).alloc (.cells #[.int .i64 0, .int .i64 0, .int .i64 0, .int .i64 0, .int .i64 0] 35)).cell? _).isSome = true; rw [hp]; rfl)), World.cell?_alloc_some _ _ _ (by first | (show (((w.alloc (.cells #[.int .i64 a0_0, .int .i64 a0_1, .int .i64 a0_2, .int .i64 a0_3, .int .i64 a0_4] 35)).alloc (.cells #[.int .i64 0, .int .i64 0, .int .i64 0, .int .i64 0, .int .i64 0] 35)).cell? _).isSome = true; rw [hp]; rfl))]; exact hp
 have hqU : ∀ n o o', (((((w.alloc (.cells #[.int .i64 a0_0, .int .i64 a0_1, .int .i64 a0_2, .int .i64 a0_3, .int .i64 a0_4] 35)).alloc (.cells #[.int .i64 0, .int .i64 0, .int .i64 0, .int .i64 0, .int .i64 0] 35)).drewN n).alloc o).alloc o').cell? ⟨(ad.add (a0_3.toNat * 2)).block, (ad.add (a0_3.toNat * 2)).off + 1, none⟩ = some (.int .i64 vb) := by intro n o o'; rw [World.cell?_alloc_some _ _ _ (by rw [World.cell?_alloc_some _ _ _ (by first | (show (((w.alloc (.cells #[.int .i64 a0_0, .int .i64 a0_1, .int .i64 a0_2, .int .i64 a0_3, .int .i64 a0_4] 35)).alloc (.cells #[.int .i64 0, .int .i64 0, .int .i64 0, .int .i64 0, .int .i64 0] 35)).cell? _).isSome = true; rw [hq]; rfl))]; first | (show (((w.alloc (.cells #[.int .i64 a0_0, .int .i64 a0_1, .int .i64 a0_2, .int .i64 a0_3, .int .i64 a0_4] 35)).alloc (.cells #[.int .i64 0, .int .i64 0, .int .i64 0, .int .i64 0, .int .i64 0] 35)).cell? _).isSome = true; rw [hq]; rfl)), World.cell?_alloc_some _ _ _ (by first | (show (((w.alloc (.cells #[.int .i64 a0_0, .int .i64 a0_1, .int .i64 a0_2, .int .i64 a0_3, .int .i64 a0_4] 35)).alloc (.cells #[.int .i64 0, .int .i64 0, .int .i64 0, .int .i64 0, .int .i64 0] 35)).cell? _).isSome = true; rw [hq]; rfl))]; exact hq
 have hxV : ∀ n o, ((((w.alloc (.cells #[.int .i64 a0_0, .int .i64 a0_1, .int .i64 a0_2, .int .i64 a0_3, .int .i64 a0_4] 35)).alloc (.cells #[.int .i64 0, .int .i64 0, .int .i64 0, .int .i64 0, .int .i64 0] 35)).drewN n).alloc o).cell? (ad.add (a0_2.toNat * 2)) = some (.bool true) := by intro n o; rw [World.cell?_alloc_some _ _ _ (by first | (show (((w.alloc (.cells #[.int .i64 a0_0, .int .i64 a0_1, .int .i64 a0_2, .int .i64 a0_3, .int .i64 a0_4] 35)).alloc (.cells #[.int .i64 0, .int .i64 0, .int .i64 0, .int .i64 0, .int .i64 0] 35)).cell? _).isSome = true; rw [hx]; rfl))]; exact hx
 have hyV : ∀ n o, ((((w.alloc (.cells #[.int .i64 a0_0, .int .i64 a0_1, .int .i64 a0_2, .int .i64 a0_3, .int .i64 a0_4] 35)).alloc (.cells #[.int .i64 0, .int .i64 0, .int .i64 0, .int .i64 0, .int .i64 0] 35)).drewN n).alloc o).cell? ⟨(ad.add (a0_2.toNat * 2)).block, (ad.add (a0_2.toNat * 2)).off + 1, none⟩ = some (.int .i64 va) := by intro n o; rw [World.cell?_alloc_some _ _ _ (by first | (show (((w.alloc (.cells #[.int .i64 a0_0, .int .i64 a0_1, .int .i64 a0_2, .int .i64 a0_3, .int .i64 a0_4] 35)).alloc (.cells #[.int .i64 0, .int .i64 0, .int .i64 0, .int .i64 0, .int .i64 0] 35)).cell? _).isSome = true; rw [hy]; rfl))]; exact hy
 have hpV : ∀ n o, ((((w.alloc (.cells #[.int .i64 a0_0, .int .i64 a0_1, .int .i64 a0_2, .int .i64 a0_3, .int .i64 a0_4] 35)).alloc (.cells #[.int .i64 0, .int .i64 0, .int .i64 0, .int .i64 0, .int .i64 0] 35)).drewN n).alloc o).cell? (ad.add (a0_3.toNat * 2)) = some (.bool kb) := by intro n o; rw [World.cell?_alloc_some _ _ _ (by first | (show (((w.alloc (.cells #[.int .i64 a0_0, .int .i64 a0_1, .int .i64 a0_2, .int .i64 a0_3, .int .i64 a0_4] 35)).alloc (.cells #[.int .i64 0, .int .i64 0, .int .i64 0, .int .i64 0, .int .i64 0] 35)).cell? _).isSome = true; rw [hp]; rfl))]; exact hp
 have hqV : ∀ n o, ((((w.alloc (.cells #[.int .i64 a0_0, .int .i64 a0_1, .int .i64 a0_2, .int .i64 a0_3, .int .i64 a0_4] 35)).alloc (.cells #[.int .i64 0, .int .i64 0, .int .i64 0, .int .i64 0, .int .i64 0] 35)).drewN n).alloc o).cell? ⟨(ad.add (a0_3.toNat * 2)).block, (ad.add (a0_3.toNat * 2)).off + 1, none⟩ = some (.int .i64 vb) := by intro n o; rw [World.cell?_alloc_some _ _ _ (by first | (show (((w.alloc (.cells #[.int .i64 a0_0, .int .i64 a0_1, .int .i64 a0_2, .int .i64 a0_3, .int .i64 a0_4] 35)).alloc (.cells #[.int .i64 0, .int .i64 0, .int .i64 0, .int .i64 0, .int .i64 0] 35)).cell? _).isSome = true; rw [hq]; rfl))]; exact hq
 clear hx0 hy0 hp0 hq0
 have c7b0 : ((l1.length : Int) == 4) = true := beq_iff_eq.mpr hl
 have c7b1 : ((l1.length : Int) != 4) = false := bne_eq_false_iff_eq.mpr hl
 have HA := Aside0.mk (fo_isReg a0_2 true (by simp [hA]))
 have HBB := Aside0.mk (fo_isReg a0_3 true (by simp [hB]))
 have e0 : (0 ≤ a0_2) = True := eq_true hA.1
 have e1 : (a0_2 < (l1.length : Int)) = True := eq_true (by omega)
 have e0b : decide (0 ≤ a0_2) = true := decide_eq_true hA.1
 have e1b : decide (a0_2 < (l1.length : Int)) = true := decide_eq_true (by omega)
 have e2 : (0 ≤ a0_3) = True := eq_true hB.1
 have e3 : (a0_3 < (l1.length : Int)) = True := eq_true (by omega)
 have e2b : decide (0 ≤ a0_3) = true := decide_eq_true hB.1
 have e3b : decide (a0_3 < (l1.length : Int)) = true := decide_eq_true (by omega)
 have o2 : (a0_0 == 2) = false := beq_eq_false_iff_ne.mpr (by omega)
 have o3 : (a0_0 == 3) = false := beq_eq_false_iff_ne.mpr (by omega)
 have o4 : (a0_0 == 4) = true := beq_iff_eq.mpr ho
 have o12 : (a0_0 == 12) = false := beq_eq_false_iff_ne.mpr (by omega)
 have HF := Aside0.mk (fo_comp a0_0 va vb)
 subst hkbf
 have HW := Aside0.mk (fo_within (foComp a0_0 va vb) false (by simp [hw]))
 clear ho hw
 clear hA hB hl
 go_enter Try.func54, Try.ntmps54
 go_wp2_with (first | (go_at_call 76; (with_reducible refine (HA.out _).mono ?_); rintro e w' ⟨rfl, ⟨nd, rfl⟩⟩) | (go_at_call 76; (with_reducible refine (HBB.out _).mono ?_); rintro e w' ⟨rfl, ⟨nd, rfl⟩⟩))
 go_region
 all_goals
  go_wp2_with (first | (go_at_call 77; (with_reducible refine (HF.out _).mono ?_); rintro e w' ⟨rfl, ⟨nd, rfl⟩⟩) | (go_at_call 58; (with_reducible refine (HW.out _).mono ?_); rintro e w' ⟨rfl, ⟨nd, rfl⟩⟩))
  exact bodyPost_ret (v := .agg #[_, _, _, _, _]) (by simp [results, Try.results54, go_sem]) rfl ⟨rfl, by repeat (first | (with_reducible first | exact Below.refl _ _ | apply below_alloc | apply pw_below_drewN | apply below_drew1) | (with_reducible refine below_set ?_ (by first | exact Nat.le_add_right _ _ | exact Nat.le_refl _ | (simp; omega))))⟩

set_option maxHeartbeats 8000000 in
set_option maxRecDepth 100000 in
theorem fo_w4 (a0_0 a0_1 a0_2 a0_3 a0_4 : Int) (A1 : Option Addr) (c1 : Nat) (l1 : List S87) (a2 : Int) (w : World) (hr1 : Kd.C k87 w A1 l1.length l1) (hl : (l1.length : Int) = 4) (hA : (0 ≤ a0_2 ∧ a0_2 ≤ 3)) (hB : (0 ≤ a0_3 ∧ a0_3 ≤ 3)) (kb : Bool) (va vb : Int) (hK : (rd_T87 l1 a0_2).f0 = true) (hva : (rd_T87 l1 a0_2).f1 = va) (hkb : (rd_T87 l1 a0_3).f0 = kb) (hvb : (rd_T87 l1 a0_3).f1 = vb) (ho : a0_0 = 4) (hkbf : kb = true) (hw : (-1000000000 ≤ foComp a0_0 va vb ∧ foComp a0_0 va vb ≤ 1000000000)) :
  Calls Try.prog 54 #[.agg #[.int .i64 a0_0, .int .i64 a0_1, .int .i64 a0_2, .int .i64 a0_3, .int .i64 a0_4], .slice A1 l1.length c1, .int .i64 a2] w fun e w' => e = .returned (.agg #[Value.int .i64 1, .int .i64 a0_1, .int .i64 0, .int .i64 0, .int .i64 (foComp a0_0 va vb)]) ∧ Below w.heap.size w w' := by
 have hu35 := Try.underlying35
 have hu87 := Try.underlying87
 obtain ⟨ad, e, hx0, hy0⟩ := at_T87 hr1 a0_2 hA.1 (by omega)
 cases e
 obtain ⟨ad', e, hp0, hq0⟩ := at_T87 hr1 a0_3 hB.1 (by omega)
 cases e
 rw [hK] at hx0
 rw [hva] at hy0
 rw [hkb] at hp0
 rw [hvb] at hq0
 clear hr1 hK hva hkb hvb
 have hx : ((w.alloc (.cells #[.int .i64 a0_0, .int .i64 a0_1, .int .i64 a0_2, .int .i64 a0_3, .int .i64 a0_4] 35)).alloc (.cells #[.int .i64 0, .int .i64 0, .int .i64 0, .int .i64 0, .int .i64 0] 35)).cell? (ad.add (a0_2.toNat * 2)) = some (.bool true) := by rw [World.cell?_alloc_some _ _ _ (by rw [World.cell?_alloc_some _ _ _ (by rw [hx0]; rfl), hx0]; rfl), World.cell?_alloc_some _ _ _ (by rw [hx0]; rfl), hx0]
 have hy : ((w.alloc (.cells #[.int .i64 a0_0, .int .i64 a0_1, .int .i64 a0_2, .int .i64 a0_3, .int .i64 a0_4] 35)).alloc (.cells #[.int .i64 0, .int .i64 0, .int .i64 0, .int .i64 0, .int .i64 0] 35)).cell? ⟨(ad.add (a0_2.toNat * 2)).block, (ad.add (a0_2.toNat * 2)).off + 1, none⟩ = some (.int .i64 va) := by rw [World.cell?_alloc_some _ _ _ (by rw [World.cell?_alloc_some _ _ _ (by rw [hy0]; rfl), hy0]; rfl), World.cell?_alloc_some _ _ _ (by rw [hy0]; rfl), hy0]
 have hp : ((w.alloc (.cells #[.int .i64 a0_0, .int .i64 a0_1, .int .i64 a0_2, .int .i64 a0_3, .int .i64 a0_4] 35)).alloc (.cells #[.int .i64 0, .int .i64 0, .int .i64 0, .int .i64 0, .int .i64 0] 35)).cell? (ad.add (a0_3.toNat * 2)) = some (.bool kb) := by rw [World.cell?_alloc_some _ _ _ (by rw [World.cell?_alloc_some _ _ _ (by rw [hp0]; rfl), hp0]; rfl), World.cell?_alloc_some _ _ _ (by rw [hp0]; rfl), hp0]
 have hq : ((w.alloc (.cells #[.int .i64 a0_0, .int .i64 a0_1, .int .i64 a0_2, .int .i64 a0_3, .int .i64 a0_4] 35)).alloc (.cells #[.int .i64 0, .int .i64 0, .int .i64 0, .int .i64 0, .int .i64 0] 35)).cell? ⟨(ad.add (a0_3.toNat * 2)).block, (ad.add (a0_3.toNat * 2)).off + 1, none⟩ = some (.int .i64 vb) := by rw [World.cell?_alloc_some _ _ _ (by rw [World.cell?_alloc_some _ _ _ (by rw [hq0]; rfl), hq0]; rfl), World.cell?_alloc_some _ _ _ (by rw [hq0]; rfl), hq0]
 have hxU : ∀ n o o', (((((w.alloc (.cells #[.int .i64 a0_0, .int .i64 a0_1, .int .i64 a0_2, .int .i64 a0_3, .int .i64 a0_4] 35)).alloc (.cells #[.int .i64 0, .int .i64 0, .int .i64 0, .int .i64 0, .int .i64 0] 35)).drewN n).alloc o).alloc o').cell? (ad.add (a0_2.toNat * 2)) = some (.bool true) := by intro n o o'; rw [World.cell?_alloc_some _ _ _ (by rw [World.cell?_alloc_some _ _ _ (by first | (show (((w.alloc (.cells #[.int .i64 a0_0, .int .i64 a0_1, .int .i64 a0_2, .int .i64 a0_3, .int .i64 a0_4] 35)).alloc (.cells #[.int .i64 0, .int .i64 0, .int .i64 0, .int .i64 0, .int .i64 0] 35)).cell? _).isSome = true; rw [hx]; rfl))]; first | (show (((w.alloc (.cells #[.int .i64 a0_0, .int .i64 a0_1, .int .i64 a0_2, .int .i64 a0_3, .int .i64 a0_4] 35)).alloc (.cells #[.int .i64 0, .int .i64 0, .int .i64 0, .int .i64 0, .int .i64 0] 35)).cell? _).isSome = true; rw [hx]; rfl)), World.cell?_alloc_some _ _ _ (by first | (show (((w.alloc (.cells #[.int .i64 a0_0, .int .i64 a0_1, .int .i64 a0_2, .int .i64 a0_3, .int .i64 a0_4] 35)).alloc (.cells #[.int .i64 0, .int .i64 0, .int .i64 0, .int .i64 0, .int .i64 0] 35)).cell? _).isSome = true; rw [hx]; rfl))]; exact hx
 have hyU : ∀ n o o', (((((w.alloc (.cells #[.int .i64 a0_0, .int .i64 a0_1, .int .i64 a0_2, .int .i64 a0_3, .int .i64 a0_4] 35)).alloc (.cells #[.int .i64 0, .int .i64 0, .int .i64 0, .int .i64 0, .int .i64 0] 35)).drewN n).alloc o).alloc o').cell? ⟨(ad.add (a0_2.toNat * 2)).block, (ad.add (a0_2.toNat * 2)).off + 1, none⟩ = some (.int .i64 va) := by intro n o o'; rw [World.cell?_alloc_some _ _ _ (by rw [World.cell?_alloc_some _ _ _ (by first | (show (((w.alloc (.cells #[.int .i64 a0_0, .int .i64 a0_1, .int .i64 a0_2, .int .i64 a0_3, .int .i64 a0_4] 35)).alloc (.cells #[.int .i64 0, .int .i64 0, .int .i64 0, .int .i64 0, .int .i64 0] 35)).cell? _).isSome = true; rw [hy]; rfl))]; first | (show (((w.alloc (.cells #[.int .i64 a0_0, .int .i64 a0_1, .int .i64 a0_2, .int .i64 a0_3, .int .i64 a0_4] 35)).alloc (.cells #[.int .i64 0, .int .i64 0, .int .i64 0, .int .i64 0, .int .i64 0] 35)).cell? _).isSome = true; rw [hy]; rfl)), World.cell?_alloc_some _ _ _ (by first | (show (((w.alloc (.cells #[.int .i64 a0_0, .int .i64 a0_1, .int .i64 a0_2, .int .i64 a0_3, .int .i64 a0_4] 35)).alloc (.cells #[.int .i64 0, .int .i64 0, .int .i64 0, .int .i64 0, .int .i64 0] 35)).cell? _).isSome = true; rw [hy]; rfl))]; exact hy
 have hpU : ∀ n o o', (((((w.alloc (.cells #[.int .i64 a0_0, .int .i64 a0_1, .int .i64 a0_2, .int .i64 a0_3, .int .i64 a0_4] 35)).alloc (.cells #[.int .i64 0, .int .i64 0, .int .i64 0, .int .i64 0, .int .i64 0] 35)).drewN n).alloc o).alloc o').cell? (ad.add (a0_3.toNat * 2)) = some (.bool kb) := by intro n o o'; rw [World.cell?_alloc_some _ _ _ (by rw [World.cell?_alloc_some _ _ _ (by first | (show (((w.alloc (.cells #[.int .i64 a0_0, .int .i64 a0_1, .int .i64 a0_2, .int .i64 a0_3, .int .i64 a0_4] 35)).alloc (.cells #[.int .i64 0, .int .i64 0, .int .i64 0, .int .i64 0, .int .i64 0] 35)).cell? _).isSome = true; rw [hp]; rfl))]; first | (show (((w.alloc (.cells #[.int .i64 a0_0, .int .i64 a0_1, .int .i64 a0_2, .int .i64 a0_3, .int .i64 a0_4] 35)).alloc (.cells #[.int .i64 0, .int .i64 0, .int .i64 0, .int .i64 0, .int .i64 0] 35)).cell? _).isSome = true; rw [hp]; rfl)), World.cell?_alloc_some _ _ _ (by first | (show (((w.alloc (.cells #[.int .i64 a0_0, .int .i64 a0_1, .int .i64 a0_2, .int .i64 a0_3, .int .i64 a0_4] 35)).alloc (.cells #[.int .i64 0, .int .i64 0, .int .i64 0, .int .i64 0, .int .i64 0] 35)).cell? _).isSome = true; rw [hp]; rfl))]; exact hp
 have hqU : ∀ n o o', (((((w.alloc (.cells #[.int .i64 a0_0, .int .i64 a0_1, .int .i64 a0_2, .int .i64 a0_3, .int .i64 a0_4] 35)).alloc (.cells #[.int .i64 0, .int .i64 0, .int .i64 0, .int .i64 0, .int .i64 0] 35)).drewN n).alloc o).alloc o').cell? ⟨(ad.add (a0_3.toNat * 2)).block, (ad.add (a0_3.toNat * 2)).off + 1, none⟩ = some (.int .i64 vb) := by intro n o o'; rw [World.cell?_alloc_some _ _ _ (by rw [World.cell?_alloc_some _ _ _ (by first | (show (((w.alloc (.cells #[.int .i64 a0_0, .int .i64 a0_1, .int .i64 a0_2, .int .i64 a0_3, .int .i64 a0_4] 35)).alloc (.cells #[.int .i64 0, .int .i64 0, .int .i64 0, .int .i64 0, .int .i64 0] 35)).cell? _).isSome = true; rw [hq]; rfl))]; first | (show (((w.alloc (.cells #[.int .i64 a0_0, .int .i64 a0_1, .int .i64 a0_2, .int .i64 a0_3, .int .i64 a0_4] 35)).alloc (.cells #[.int .i64 0, .int .i64 0, .int .i64 0, .int .i64 0, .int .i64 0] 35)).cell? _).isSome = true; rw [hq]; rfl)), World.cell?_alloc_some _ _ _ (by first | (show (((w.alloc (.cells #[.int .i64 a0_0, .int .i64 a0_1, .int .i64 a0_2, .int .i64 a0_3, .int .i64 a0_4] 35)).alloc (.cells #[.int .i64 0, .int .i64 0, .int .i64 0, .int .i64 0, .int .i64 0] 35)).cell? _).isSome = true; rw [hq]; rfl))]; exact hq
 have hxV : ∀ n o, ((((w.alloc (.cells #[.int .i64 a0_0, .int .i64 a0_1, .int .i64 a0_2, .int .i64 a0_3, .int .i64 a0_4] 35)).alloc (.cells #[.int .i64 0, .int .i64 0, .int .i64 0, .int .i64 0, .int .i64 0] 35)).drewN n).alloc o).cell? (ad.add (a0_2.toNat * 2)) = some (.bool true) := by intro n o; rw [World.cell?_alloc_some _ _ _ (by first | (show (((w.alloc (.cells #[.int .i64 a0_0, .int .i64 a0_1, .int .i64 a0_2, .int .i64 a0_3, .int .i64 a0_4] 35)).alloc (.cells #[.int .i64 0, .int .i64 0, .int .i64 0, .int .i64 0, .int .i64 0] 35)).cell? _).isSome = true; rw [hx]; rfl))]; exact hx
 have hyV : ∀ n o, ((((w.alloc (.cells #[.int .i64 a0_0, .int .i64 a0_1, .int .i64 a0_2, .int .i64 a0_3, .int .i64 a0_4] 35)).alloc (.cells #[.int .i64 0, .int .i64 0, .int .i64 0, .int .i64 0, .int .i64 0] 35)).drewN n).alloc o).cell? ⟨(ad.add (a0_2.toNat * 2)).block, (ad.add (a0_2.toNat * 2)).off + 1, none⟩ = some (.int .i64 va) := by intro n o; rw [World.cell?_alloc_some _ _ _ (by first | (show (((w.alloc (.cells #[.int .i64 a0_0, .int .i64 a0_1, .int .i64 a0_2, .int .i64 a0_3, .int .i64 a0_4] 35)).alloc (.cells #[.int .i64 0, .int .i64 0, .int .i64 0, .int .i64 0, .int .i64 0] 35)).cell? _).isSome = true; rw [hy]; rfl))]; exact hy
 have hpV : ∀ n o, ((((w.alloc (.cells #[.int .i64 a0_0, .int .i64 a0_1, .int .i64 a0_2, .int .i64 a0_3, .int .i64 a0_4] 35)).alloc (.cells #[.int .i64 0, .int .i64 0, .int .i64 0, .int .i64 0, .int .i64 0] 35)).drewN n).alloc o).cell? (ad.add (a0_3.toNat * 2)) = some (.bool kb) := by intro n o; rw [World.cell?_alloc_some _ _ _ (by first | (show (((w.alloc (.cells #[.int .i64 a0_0, .int .i64 a0_1, .int .i64 a0_2, .int .i64 a0_3, .int .i64 a0_4] 35)).alloc (.cells #[.int .i64 0, .int .i64 0, .int .i64 0, .int .i64 0, .int .i64 0] 35)).cell? _).isSome = true; rw [hp]; rfl))]; exact hp
 have hqV : ∀ n o, ((((w.alloc (.cells #[.int .i64 a0_0, .int .i64 a0_1, .int .i64 a0_2, .int .i64 a0_3, .int .i64 a0_4] 35)).alloc (.cells #[.int .i64 0, .int .i64 0, .int .i64 0, .int .i64 0, .int .i64 0] 35)).drewN n).alloc o).cell? ⟨(ad.add (a0_3.toNat * 2)).block, (ad.add (a0_3.toNat * 2)).off + 1, none⟩ = some (.int .i64 vb) := by intro n o; rw [World.cell?_alloc_some _ _ _ (by first | (show (((w.alloc (.cells #[.int .i64 a0_0, .int .i64 a0_1, .int .i64 a0_2, .int .i64 a0_3, .int .i64 a0_4] 35)).alloc (.cells #[.int .i64 0, .int .i64 0, .int .i64 0, .int .i64 0, .int .i64 0] 35)).cell? _).isSome = true; rw [hq]; rfl))]; exact hq
 clear hx0 hy0 hp0 hq0
 have c7b0 : ((l1.length : Int) == 4) = true := beq_iff_eq.mpr hl
 have c7b1 : ((l1.length : Int) != 4) = false := bne_eq_false_iff_eq.mpr hl
 have HA := Aside0.mk (fo_isReg a0_2 true (by simp [hA]))
 have HBB := Aside0.mk (fo_isReg a0_3 true (by simp [hB]))
 have e0 : (0 ≤ a0_2) = True := eq_true hA.1
 have e1 : (a0_2 < (l1.length : Int)) = True := eq_true (by omega)
 have e0b : decide (0 ≤ a0_2) = true := decide_eq_true hA.1
 have e1b : decide (a0_2 < (l1.length : Int)) = true := decide_eq_true (by omega)
 have e2 : (0 ≤ a0_3) = True := eq_true hB.1
 have e3 : (a0_3 < (l1.length : Int)) = True := eq_true (by omega)
 have e2b : decide (0 ≤ a0_3) = true := decide_eq_true hB.1
 have e3b : decide (a0_3 < (l1.length : Int)) = true := decide_eq_true (by omega)
 have o2 : (a0_0 == 2) = false := beq_eq_false_iff_ne.mpr (by omega)
 have o3 : (a0_0 == 3) = false := beq_eq_false_iff_ne.mpr (by omega)
 have o4 : (a0_0 == 4) = true := beq_iff_eq.mpr ho
 have o12 : (a0_0 == 12) = false := beq_eq_false_iff_ne.mpr (by omega)
 have HF := Aside0.mk (fo_comp a0_0 va vb)
 subst hkbf
 have HW := Aside0.mk (fo_within (foComp a0_0 va vb) true (by simp [hw]))
 clear ho hw
 clear hA hB hl
 go_enter Try.func54, Try.ntmps54
 go_wp2_with (first | (go_at_call 76; (with_reducible refine (HA.out _).mono ?_); rintro e w' ⟨rfl, ⟨nd, rfl⟩⟩) | (go_at_call 76; (with_reducible refine (HBB.out _).mono ?_); rintro e w' ⟨rfl, ⟨nd, rfl⟩⟩))
 go_region
 all_goals
  go_wp2_with (first | (go_at_call 77; (with_reducible refine (HF.out _).mono ?_); rintro e w' ⟨rfl, ⟨nd, rfl⟩⟩) | (go_at_call 58; (with_reducible refine (HW.out _).mono ?_); rintro e w' ⟨rfl, ⟨nd, rfl⟩⟩))
  exact bodyPost_ret (v := .agg #[_, _, _, _, _]) (by simp [results, Try.results54, go_sem]) rfl ⟨rfl, by repeat (first | (with_reducible first | exact Below.refl _ _ | apply below_alloc | apply pw_below_drewN | apply below_drew1) | (with_reducible refine below_set ?_ (by first | exact Nat.le_add_right _ _ | exact Nat.le_refl _ | (simp; omega))))⟩
def foX (a0_0 a0_1 a0_2 a0_3 a0_4 : Int) : Int × Int × Int × Int × Int := (a0_0, a0_1, a0_2, a0_3, a0_4)
def foG (a0_0 a0_1 a0_2 a0_3 a0_4 : Int) (l : List S87) (a2 : Int) : Int × Int × Int × Int × Int :=
 if (l.length : Int) = 4 ∧ (0 ≤ a0_2 ∧ a0_2 ≤ 3) ∧ (0 ≤ a0_3 ∧ a0_3 ≤ 3) ∧ (rd_T87 l a0_2).f0 = true then
  (if a0_0 = 2 ∨ a0_0 = 3 ∨ a0_0 = 4 then
   (if (rd_T87 l a0_3).f0 = true ∧ (-1000000000 ≤ foComp a0_0 (rd_T87 l a0_2).f1 (rd_T87 l a0_3).f1 ∧ foComp a0_0 (rd_T87 l a0_2).f1 (rd_T87 l a0_3).f1 ≤ 1000000000) then (1, a0_1, 0, 0, foComp a0_0 (rd_T87 l a0_2).f1 (rd_T87 l a0_3).f1) else (a0_0, a0_1, a0_2, a0_3, a0_4))
  else (if a0_0 = 12 then (if (rd_T87 l a0_2).f1 = 0 then (11, 0, 0, 0, a0_4) else (11, 0, 0, 0, a2)) else (a0_0, a0_1, a0_2, a0_3, a0_4)))
 else (a0_0, a0_1, a0_2, a0_3, a0_4)
def impl_FoldOne.f (a0_0 a0_1 a0_2 a0_3 a0_4 : Int) (l : List S87) (a2 : Int) : Option (Int × Int × Int × Int × Int) := some (foG a0_0 a0_1 a0_2 a0_3 a0_4 l a2)
theorem impl_FoldOne.calls (a0_0 : Int) (a0_1 : Int) (a0_2 : Int) (a0_3 : Int) (a0_4 : Int) (A1 : Option Addr) (c1 : Nat) (l1 : List (S87)) (a2 : Int) (r1 : Int) (r2 : Int) (r3 : Int) (r4 : Int) (r5 : Int) (w : World) (hr1 : Kd.C k87 w A1 l1.length l1) (hc1 : l1.length ≤ c1) (h : impl_FoldOne.f a0_0 a0_1 a0_2 a0_3 a0_4 l1 a2 = some (r1, r2, r3, r4, r5)) :
  Calls Try.prog 54 #[.agg #[.int .i64 a0_0, .int .i64 a0_1, .int .i64 a0_2, .int .i64 a0_3, .int .i64 a0_4], .slice A1 l1.length c1, .int .i64 a2] w fun e w' => e = .returned (.agg #[.int .i64 r1, .int .i64 r2, .int .i64 r3, .int .i64 r4, .int .i64 r5]) ∧ Below w.heap.size w w' := by
 replace h := Option.some.inj h
 unfold foG at h
 by_cases hl : (l1.length : Int) = 4
 case neg =>
  rw [if_neg (fun x => hl x.1)] at h
  obtain ⟨rfl, rfl, rfl, rfl, rfl⟩ := h
  exact fo_t1 _ _ _ _ _ A1 c1 l1 a2 w hl
 by_cases hA : (0 ≤ a0_2 ∧ a0_2 ≤ 3)
 case neg =>
  rw [if_neg (fun x => hA x.2.1)] at h
  obtain ⟨rfl, rfl, rfl, rfl, rfl⟩ := h
  exact fo_t2 _ _ _ _ _ A1 c1 l1 a2 w hl hA
 by_cases hB : (0 ≤ a0_3 ∧ a0_3 ≤ 3)
 case neg =>
  rw [if_neg (fun x => hB x.2.2.1)] at h
  obtain ⟨rfl, rfl, rfl, rfl, rfl⟩ := h
  exact fo_t3 _ _ _ _ _ A1 c1 l1 a2 w hl hA hB
 by_cases hK : (rd_T87 l1 a0_2).f0 = true
 case neg =>
  rw [if_neg (fun x => hK x.2.2.2)] at h
  obtain ⟨rfl, rfl, rfl, rfl, rfl⟩ := h
  exact fo_t4 _ _ _ _ _ A1 c1 l1 a2 w hr1 hl hA hB (Bool.eq_false_iff.mpr hK)
 rw [if_pos ⟨hl, hA, hB, hK⟩] at h
 by_cases ho : a0_0 = 2 ∨ a0_0 = 3 ∨ a0_0 = 4
 ·rw [if_pos ho] at h
  by_cases hb : (rd_T87 l1 a0_3).f0 = true
  ·by_cases hw : (-1000000000 ≤ foComp a0_0 (rd_T87 l1 a0_2).f1 (rd_T87 l1 a0_3).f1 ∧ foComp a0_0 (rd_T87 l1 a0_2).f1 (rd_T87 l1 a0_3).f1 ≤ 1000000000)
   ·rw [if_pos ⟨hb, hw⟩] at h
    simp only [Prod.mk.injEq] at h
    obtain ⟨rfl, rfl, rfl, rfl, rfl⟩ := h
    rcases ho with ho | ho | ho
    ·exact fo_w2 a0_0 _ _ _ a0_4 A1 c1 l1 a2 w hr1 hl hA hB true _ _ hK rfl hb rfl ho rfl hw
    ·exact fo_w3 a0_0 _ _ _ a0_4 A1 c1 l1 a2 w hr1 hl hA hB true _ _ hK rfl hb rfl ho rfl hw
    ·exact fo_w4 a0_0 _ _ _ a0_4 A1 c1 l1 a2 w hr1 hl hA hB true _ _ hK rfl hb rfl ho rfl hw
   ·rw [if_neg (fun x => hw x.2)] at h
    simp only [Prod.mk.injEq] at h
    obtain ⟨rfl, rfl, rfl, rfl, rfl⟩ := h
    rcases ho with ho | ho | ho
    ·exact fo_v2 _ _ _ _ _ A1 c1 l1 a2 w hr1 hl hA hB true _ _ hK rfl hb rfl ho rfl hw
    ·exact fo_v3 _ _ _ _ _ A1 c1 l1 a2 w hr1 hl hA hB true _ _ hK rfl hb rfl ho rfl hw
    ·exact fo_v4 _ _ _ _ _ A1 c1 l1 a2 w hr1 hl hA hB true _ _ hK rfl hb rfl ho rfl hw
  ·rw [if_neg (fun x => hb x.1)] at h
   simp only [Prod.mk.injEq] at h
   obtain ⟨rfl, rfl, rfl, rfl, rfl⟩ := h
   rcases ho with ho | ho | ho
   ·exact fo_u2 _ _ _ _ _ A1 c1 l1 a2 w hr1 hl hA hB false _ _ hK rfl (Bool.eq_false_iff.mpr hb) rfl ho rfl
   ·exact fo_u3 _ _ _ _ _ A1 c1 l1 a2 w hr1 hl hA hB false _ _ hK rfl (Bool.eq_false_iff.mpr hb) rfl ho rfl
   ·exact fo_u4 _ _ _ _ _ A1 c1 l1 a2 w hr1 hl hA hB false _ _ hK rfl (Bool.eq_false_iff.mpr hb) rfl ho rfl
 ·rw [if_neg ho] at h
  by_cases h12 : a0_0 = 12
  ·rw [if_pos h12] at h
   by_cases hz : (rd_T87 l1 a0_2).f1 = 0
   ·rw [if_pos hz] at h
    simp only [Prod.mk.injEq] at h
    obtain ⟨rfl, rfl, rfl, rfl, rfl⟩ := h
    exact fo_t6 a0_0 a0_1 _ _ a0_4 A1 c1 l1 a2 w hr1 hl hA hB _ _ _ hK rfl rfl rfl h12 hz
   ·rw [if_neg hz] at h
    simp only [Prod.mk.injEq] at h
    obtain ⟨rfl, rfl, rfl, rfl, rfl⟩ := h
    exact fo_t7 a0_0 a0_1 _ _ a0_4 A1 c1 l1 a2 w hr1 hl hA hB _ _ _ hK rfl rfl rfl h12 hz
  ·rw [if_neg h12] at h
   simp only [Prod.mk.injEq] at h
   obtain ⟨rfl, rfl, rfl, rfl, rfl⟩ := h
   exact fo_t5 _ _ _ _ _ A1 c1 l1 a2 w hr1 hl hA hB _ _ _ hK rfl rfl rfl ⟨by omega, by omega, by omega, h12⟩

end Go.Proofs.Ytnnakemiaalggaa.XFnExactFoldOne
