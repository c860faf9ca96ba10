/- Each Go function that the law reaches as a Lean function, and that Go comes to just its answer; written by this session's xprint.py over the kit's printer. -/
import Derived.Test.YtocimkpafakiaaaXFnExactFoldBodyx0
import Derived.Test.YtocimkpafakiaaaXFnExactFoldBodyx11
import Derived.Test.YtocimkpafakiaaaXFnExactFoldBodyx14
namespace Go.Proofs.Ytocimkpafakiaaa.XFnExactFoldBody
open Go.RowKit Go.Proofs.YtocimkpafakiaaaW.PrintWords Go.Proofs.YtocimkpafakiaaaW.PrintLast Go.Proofs.YtocimkpafakiaaaW.PrintMore
attribute [local go_sem] max2_int min2_int max_two min_two max_three min_three max_four min_four   -- for this text's walks alone
set_option linter.unusedVariables false
set_option linter.unusedSimpArgs false

theorem att19_0_0 {p : Prop} (h : p := by repeat (first | (with_reducible first | exact Below.refl _ _ | apply below_alloc | apply pw_below_drewN | apply below_drew1) | (with_reducible refine below_set ?_ (by first | exact Nat.le_add_right _ _ | exact Nat.le_refl _ | (simp; omega))))) : p := h
theorem att19_0_1 {p : Prop} (h : p := by repeat (first | (with_reducible first | exact HB.out | apply below_alloc | apply pw_below_drewN | apply below_drew1) | exact HB.out)) : p := h
theorem att19_0_2 {p : Prop} (h : p := by simp [results, Try.results99, go_sem]) : p := h
/-! ### impl_copyBody: function 66 -/
def impl_copyBody.f (l0 : List (S63)) : Option ((List (S63))) := (some (([] : List (S63)) : List (S63))).bind fun y392 => (if y392.length + l0.length < 3518437208883 then (some (y392 ++ l0)) else (none))
set_option maxHeartbeats 80000000 in
set_option maxRecDepth 100000 in
theorem impl_copyBody.calls (A0 : Option Addr) (c0 : Nat) (l0 : List (S63)) (r : List (S63)) (w : World) (hr0 : Kd.C k63 w A0 l0.length l0) (hc0 : l0.length ≤ c0) (h : impl_copyBody.f l0 = some r) :
  Calls Try.prog 66 #[.slice A0 l0.length c0] w fun e w' => ∃ v0_ : Value, e = .returned (v0_) ∧ Kd.R k63 63 w' w.heap.size (fun _ => True) v0_ r ∧ Below w.heap.size w w' := by
 have HR0 := Aside0.mk hr0
 have HC0 := Aside0.mk hc0
 clear hr0 hc0
 have HB := Aside0.mk (Below.refl w.heap.size w)
 have H : ((some (([] : List (S63)) : List (S63))).bind fun y392 => (if y392.length + l0.length < 3518437208883 then (some (y392 ++ l0)) else (none))) = some r := h
 clear h
 obtain ⟨y392, hy392⟩ : ∃ y_ : List (S63), y_ = (([] : List (S63))) := ⟨_, rfl⟩
 replace H : (if y392.length + l0.length < 3518437208883 then (some (y392 ++ l0)) else (none)) = some r := by first | (rw [hy392]; with_reducible exact H) | (have H2_ := (Option.bind_some _ _).symm.trans H; rw [hy392]; with_reducible exact H2_) | (have H2_ := (Option.bind_some _ _).symm.trans H; with_reducible exact H2_) | with_reducible exact H | (rw [hy392]; exact H) | exact H
 have Ny392 := Aside0.mk hy392
 clear hy392
 by_cases c2 : y392.length + l0.length < 3518437208883
 ·rw [if_pos c2] at H
  have LMc2 := Aside0.mk c2
  clear c2
  obtain ⟨y395, hy395⟩ : ∃ y_ : List (S63), y_ = (y392 ++ l0) := ⟨_, rfl⟩
  replace H : (some y395) = some r := by first | (rw [hy395]; with_reducible exact H) | (have H2_ := (Option.bind_some _ _).symm.trans H; rw [hy395]; with_reducible exact H2_) | (have H2_ := (Option.bind_some _ _).symm.trans H; with_reducible exact H2_) | with_reducible exact H | (rw [hy395]; exact H) | exact H
  have Ny395 := Aside0.mk hy395
  clear hy395
  obtain rfl := Option.some.inj H
  go_enter Try.func66, Try.ntmps66
  go_wp2_with (first | ((with_reducible refine gate_dst (N := 3) rfl ?_); refine Kd.R_lit k63 _ 63 ?hg (N := 3) ?hd (xs := ([] : List (S63))) (inner := []) (ok := fun _ => True) (okp := fun _ => True) ?hr ?hp (fun _ hk => hk) trivial (Below.refl _ _) (Nat.le_refl _) (by simp) ?_; (case hd => rfl); (case hg => rfl); (case hr => first | (go_simp; done) | (go_simp; rfl)); (case hp => exact (Reps.none _ _)); intro v393 w3 ho4 hb hg_ hnew_; clear hg_ hnew_; (first | rw [← Ny392.out] at ho4 | (simp only [Int.reduceToNat] at ho4; rw [← Ny392.out] at ho4)); have n0_ := Aside0.mk (Kd.R_lower ho4 (below_size att19_0_1)); have n1_ := Aside0.mk (below_step att19_0_1 hb); clear HB; have HO394 := n0_; have HB := n1_; clear n0_ n1_; clear hb ho4) | ((with_reducible refine gate_builtin (b := .append) (xs := #[.tmp 3, .tmp 4]) rfl ?_); at_builtin; refine Kd.R_append_rows k63 (w0 := w) w.heap.size rfl (.tmp 3) (.tmp 4) 24 63 (.agg #[(.int .i64 0), (.int .i64 0), (.int .i64 0), (.int .i64 0), (.int .i64 0)]) 40 rfl Try.underlying24 info63 rfl (by decide) (by omega) v393 y392 l0 _ _ _ (fun _ => True) (fun _ => False) rfl rfl ?aO ?aR (fun _ _ h => h) (fun _ h => h.elim) ?aF ?aB ?aS ?aL ?_; (case aR => repeat (first | exact (Kd.C_below HR0.out HB.out) | (with_reducible refine Kd.C_alloc ?_ _) | (with_reducible refine Kd.C_drewN ?_ _) | (with_reducible refine Kd.C_drew ?_))); (case aB => exact att19_0_1); (case aF => exact (fun _ _ => trivial)); (case aO => exact (by (with_reducible repeat (first | apply Kd.R_alloc | apply Kd.R_drewN | apply Kd.R_drew)); exact HO394.out)); (case aS => exact (below_size att19_0_1)); (case aL => have := LMc2.out; omega); intro v396 w5 ho hb hg hat; rw [← Ny395.out] at ho; have n0_ := Aside0.mk (hb); have n1_ := Aside0.mk (ho); clear HB; clear HO394; have HB := n0_; have HO397 := n1_; clear n0_ n1_; clear ho hb hg hat))
  go_ret
  exact ⟨_, by first | rfl | (simp [errW_none, errW_some] <;> rfl) | (simp [*, errW_none, errW_some] <;> rfl), by (with_reducible repeat (first | apply Kd.R_alloc | apply Kd.R_drewN | apply Kd.R_drew)); exact HO397.out, att19_0_1⟩
 ·rw [if_neg c2] at H
  exact absurd H (by simp)

/-! ### impl_FoldOne: function 99 -/
theorem fo_isReg (a : Int) (b : Bool) (hb : b = decide (0 ≤ a ∧ a ≤ 3)) (w : World) : Calls Try.prog 115 #[.int .i64 a] w fun e w' => e = .returned (.bool b) ∧ Drawn0 w w' := by
 subst hb
 refine impl_isReg.calls a _ w ?_
 simp only [impl_isReg.f, impl_within.f]
 by_cases h : a ≥ 0
 ·have h' : 0 ≤ a := h
  simp [h']
 ·have h' : ¬ 0 ≤ a := h
  simp [h']
theorem fo_within (v : Int) (b : Bool) (hb : b = decide (-1000000000 ≤ v ∧ v ≤ 1000000000)) (w : World) : Calls Try.prog 79 #[.int .i64 v, .int .i64 (-1000000000), .int .i64 1000000000] w fun e w' => e = .returned (.bool b) ∧ Drawn0 w w' := by
 subst hb
 refine impl_within.calls v _ _ _ w ?_
 simp only [impl_within.f]
 by_cases h : v ≥ -1000000000
 ·have h' : -1000000000 ≤ v := h
  simp [h']
 ·have h' : ¬ -1000000000 ≤ v := h
  simp [h']
theorem fo_al {w : World} {o : Obj} {ad : Addr} {v : Value} (h : w.cell? ad = some v) : (w.alloc o).cell? ad = some v := by
 rw [World.cell?_alloc_some _ _ _ (by rw [h]; rfl), h]
theorem fo_a2 (a0 a1 a2 a3 a4 : Int) {w : World} {ad : Addr} {v : Value} (h : w.cell? ad = some v) : ((w.alloc (.cells #[.int .i64 a0, .int .i64 a1, .int .i64 a2, .int .i64 a3, .int .i64 a4] 63)).alloc (.cells #[.int .i64 0, .int .i64 0, .int .i64 0, .int .i64 0, .int .i64 0] 63)).cell? ad = some v := fo_al (fo_al h)
theorem fo_aU {w : World} {ad : Addr} {v : Value} (h : w.cell? ad = some v) : ∀ n o o', (((w.drewN n).alloc o).alloc o').cell? ad = some v := fun n o o' => fo_al (fo_al (w := w.drewN n) h)
theorem fo_aV {w : World} {ad : Addr} {v : Value} (h : w.cell? ad = some v) : ∀ n o, ((w.drewN n).alloc o).cell? ad = some v := fun n o => fo_al (w := w.drewN n) h
def foComp (op a b : Int) : Int := if op = 2 then wrap64 (a + b) else (if op = 3 then wrap64 (a - b) else (if a < b then 1 else 0))
theorem fo_comp (op a b : Int) (w : World) : Calls Try.prog 123 #[.int .i64 op, .int .i64 a, .int .i64 b] w fun e w' => e = .returned (.int .i64 (foComp op a b)) ∧ Drawn0 w w' := by
 refine impl_compute.calls op a b _ w ?_
 simp only [impl_compute.f, foComp, impl_number.f]
 by_cases h : op = 2
 ·simp [h]
 by_cases h3 : op = 3
 ·simp [h3]
 by_cases h4 : a < b <;> simp [h, h3, h4]
set_option maxHeartbeats 4000000 in
set_option maxRecDepth 100000 in
theorem fo_t1 (a0_0 a0_1 a0_2 a0_3 a0_4 : Int) (A1 : Option Addr) (c1 : Nat) (l1 : List S83) (a2 : Int) (w : World) (hl : ¬ (l1.length : Int) = 4) :
  Calls Try.prog 99 #[.agg #[.int .i64 a0_0, .int .i64 a0_1, .int .i64 a0_2, .int .i64 a0_3, .int .i64 a0_4], .slice A1 l1.length c1, .int .i64 a2] w fun e w' => e = .returned (.agg #[.int .i64 a0_0, .int .i64 a0_1, .int .i64 a0_2, .int .i64 a0_3, .int .i64 a0_4]) ∧ Below w.heap.size w w' := by
 have hu63 := Try.underlying63
 have hu83 := Try.underlying83
 have c7b0 : ((l1.length : Int) == 4) = false := beq_eq_false_iff_ne.mpr hl
 have c7b1 : ((l1.length : Int) != 4) = true := bne_iff_ne.mpr hl
 clear hl
 go_enter Try.func99, Try.ntmps99
 go_wp2
 exact bodyPost_ret (v := .agg #[_, _, _, _, _]) att19_0_2 rfl ⟨rfl, att19_0_0⟩
set_option maxHeartbeats 4000000 in
set_option maxRecDepth 100000 in
theorem fo_t2 (a0_0 a0_1 a0_2 a0_3 a0_4 : Int) (A1 : Option Addr) (c1 : Nat) (l1 : List S83) (a2 : Int) (w : World) (hl : (l1.length : Int) = 4) (hA : ¬ (0 ≤ a0_2 ∧ a0_2 ≤ 3)) :
  Calls Try.prog 99 #[.agg #[.int .i64 a0_0, .int .i64 a0_1, .int .i64 a0_2, .int .i64 a0_3, .int .i64 a0_4], .slice A1 l1.length c1, .int .i64 a2] w fun e w' => e = .returned (.agg #[.int .i64 a0_0, .int .i64 a0_1, .int .i64 a0_2, .int .i64 a0_3, .int .i64 a0_4]) ∧ Below w.heap.size w w' := by
 have hu63 := Try.underlying63
 have hu83 := Try.underlying83
 have c7b0 : ((l1.length : Int) == 4) = true := beq_iff_eq.mpr hl
 have c7b1 : ((l1.length : Int) != 4) = false := bne_eq_false_iff_eq.mpr hl
 have HA := Aside0.mk (fo_isReg a0_2 false (by simp [hA]))
 clear hA hl
 go_enter Try.func99, Try.ntmps99
 go_wp2_with (first | (go_at_call 115; (with_reducible refine (HA.out _).mono ?_); rintro e w' ⟨rfl, ⟨nd, rfl⟩⟩))
 exact bodyPost_ret (v := .agg #[_, _, _, _, _]) att19_0_2 rfl ⟨rfl, att19_0_0⟩
set_option maxHeartbeats 4000000 in
set_option maxRecDepth 100000 in
theorem fo_t3 (a0_0 a0_1 a0_2 a0_3 a0_4 : Int) (A1 : Option Addr) (c1 : Nat) (l1 : List S83) (a2 : Int) (w : World) (hl : (l1.length : Int) = 4) (hA : (0 ≤ a0_2 ∧ a0_2 ≤ 3)) (hB : ¬ (0 ≤ a0_3 ∧ a0_3 ≤ 3)) :
  Calls Try.prog 99 #[.agg #[.int .i64 a0_0, .int .i64 a0_1, .int .i64 a0_2, .int .i64 a0_3, .int .i64 a0_4], .slice A1 l1.length c1, .int .i64 a2] w fun e w' => e = .returned (.agg #[.int .i64 a0_0, .int .i64 a0_1, .int .i64 a0_2, .int .i64 a0_3, .int .i64 a0_4]) ∧ Below w.heap.size w w' := by
 have hu63 := Try.underlying63
 have hu83 := Try.underlying83
 have c7b0 : ((l1.length : Int) == 4) = true := beq_iff_eq.mpr hl
 have c7b1 : ((l1.length : Int) != 4) = false := bne_eq_false_iff_eq.mpr hl
 have HA := Aside0.mk (fo_isReg a0_2 true (by simp [hA]))
 have HBB := Aside0.mk (fo_isReg a0_3 false (by simp [hB]))
 clear hA hB hl
 go_enter Try.func99, Try.ntmps99
 go_wp2_with (first | (go_at_call 115; (with_reducible refine (HA.out _).mono ?_); rintro e w' ⟨rfl, ⟨nd, rfl⟩⟩) | (go_at_call 115; (with_reducible refine (HBB.out _).mono ?_); rintro e w' ⟨rfl, ⟨nd, rfl⟩⟩))
 exact bodyPost_ret (v := .agg #[_, _, _, _, _]) att19_0_2 rfl ⟨rfl, att19_0_0⟩
set_option maxHeartbeats 4000000 in
set_option maxRecDepth 100000 in
theorem fo_t4 (a0_0 a0_1 a0_2 a0_3 a0_4 : Int) (A1 : Option Addr) (c1 : Nat) (l1 : List S83) (a2 : Int) (w : World) (hr1 : Kd.C k83 w A1 l1.length l1) (hl : (l1.length : Int) = 4) (hA : (0 ≤ a0_2 ∧ a0_2 ≤ 3)) (hB : (0 ≤ a0_3 ∧ a0_3 ≤ 3)) (hK : (rd_T83 l1 a0_2).f0 = false) :
  Calls Try.prog 99 #[.agg #[.int .i64 a0_0, .int .i64 a0_1, .int .i64 a0_2, .int .i64 a0_3, .int .i64 a0_4], .slice A1 l1.length c1, .int .i64 a2] w fun e w' => e = .returned (.agg #[.int .i64 a0_0, .int .i64 a0_1, .int .i64 a0_2, .int .i64 a0_3, .int .i64 a0_4]) ∧ Below w.heap.size w w' := by
 have hu63 := Try.underlying63
 have hu83 := Try.underlying83
 obtain ⟨ad, e, hx, hy⟩ := at_T83 hr1 a0_2 hA.1 (by omega)
 cases e
 rw [hK] at hx
 clear hr1 hy hK
 have hx2 : ((w.alloc (.cells #[.int .i64 a0_0, .int .i64 a0_1, .int .i64 a0_2, .int .i64 a0_3, .int .i64 a0_4] 63)).alloc (.cells #[.int .i64 0, .int .i64 0, .int .i64 0, .int .i64 0, .int .i64 0] 63)).cell? (ad.add (a0_2.toNat * 2)) = some (.bool false) := by rw [World.cell?_alloc_some _ _ _ (by rw [World.cell?_alloc_some _ _ _ (by rw [hx]; rfl), hx]; rfl), World.cell?_alloc_some _ _ _ (by rw [hx]; rfl), hx]
 clear hx
 have c7b0 : ((l1.length : Int) == 4) = true := beq_iff_eq.mpr hl
 have c7b1 : ((l1.length : Int) != 4) = false := bne_eq_false_iff_eq.mpr hl
 have HA := Aside0.mk (fo_isReg a0_2 true (by simp [hA]))
 have HBB := Aside0.mk (fo_isReg a0_3 true (by simp [hB]))
 have e0 : (0 ≤ a0_2) = True := eq_true hA.1
 have e1 : (a0_2 < (l1.length : Int)) = True := eq_true (by omega)
 have e0b : decide (0 ≤ a0_2) = true := decide_eq_true hA.1
 have e1b : decide (a0_2 < (l1.length : Int)) = true := decide_eq_true (by omega)
 clear hA hB hl
 go_enter Try.func99, Try.ntmps99
 go_wp2_with (first | (go_at_call 115; (with_reducible refine (HA.out _).mono ?_); rintro e w' ⟨rfl, ⟨nd, rfl⟩⟩) | (go_at_call 115; (with_reducible refine (HBB.out _).mono ?_); rintro e w' ⟨rfl, ⟨nd, rfl⟩⟩))
 exact bodyPost_ret (v := .agg #[_, _, _, _, _]) att19_0_2 rfl ⟨rfl, att19_0_0⟩

set_option maxHeartbeats 80000000 in
set_option maxRecDepth 100000 in
theorem fo_t5 (a0_0 a0_1 a0_2 a0_3 a0_4 : Int) (A1 : Option Addr) (c1 : Nat) (l1 : List S83) (a2 : Int) (w : World) (hr1 : Kd.C k83 w A1 l1.length l1) (hl : (l1.length : Int) = 4) (hA : (0 ≤ a0_2 ∧ a0_2 ≤ 3)) (hB : (0 ≤ a0_3 ∧ a0_3 ≤ 3)) (kb : Bool) (va vb : Int) (hK : (rd_T83 l1 a0_2).f0 = true) (hva : (rd_T83 l1 a0_2).f1 = va) (hkb : (rd_T83 l1 a0_3).f0 = kb) (hvb : (rd_T83 l1 a0_3).f1 = vb) (ho : a0_0 ≠ 2 ∧ a0_0 ≠ 3 ∧ a0_0 ≠ 4 ∧ a0_0 ≠ 12) :
  Calls Try.prog 99 #[.agg #[.int .i64 a0_0, .int .i64 a0_1, .int .i64 a0_2, .int .i64 a0_3, .int .i64 a0_4], .slice A1 l1.length c1, .int .i64 a2] w fun e w' => e = .returned (.agg #[Value.int .i64 a0_0, .int .i64 a0_1, .int .i64 a0_2, .int .i64 a0_3, .int .i64 a0_4]) ∧ Below w.heap.size w w' := by
 have hu63 := Try.underlying63
 have hu83 := Try.underlying83
 obtain ⟨ad, e, hx0, hy0⟩ := at_T83 hr1 a0_2 hA.1 (by omega)
 cases e
 obtain ⟨ad', e, hp0, hq0⟩ := at_T83 hr1 a0_3 hB.1 (by omega)
 cases e
 rw [hK] at hx0
 rw [hva] at hy0
 rw [hkb] at hp0
 rw [hvb] at hq0
 clear hr1 hK hva hkb hvb
 have hx := fo_a2 a0_0 a0_1 a0_2 a0_3 a0_4 hx0
 have hy := fo_a2 a0_0 a0_1 a0_2 a0_3 a0_4 hy0
 have hp := fo_a2 a0_0 a0_1 a0_2 a0_3 a0_4 hp0
 have hq := fo_a2 a0_0 a0_1 a0_2 a0_3 a0_4 hq0
 have hxU := fo_aU hx
 have hyU := fo_aU hy
 have hpU := fo_aU hp
 have hqU := fo_aU hq
 have hxV := fo_aV hx
 have hyV := fo_aV hy
 have hpV := fo_aV hp
 have hqV := fo_aV hq
 clear hx0 hy0 hp0 hq0
 have c7b0 : ((l1.length : Int) == 4) = true := beq_iff_eq.mpr hl
 have c7b1 : ((l1.length : Int) != 4) = false := bne_eq_false_iff_eq.mpr hl
 have HA := Aside0.mk (fo_isReg a0_2 true (by simp [hA]))
 have HBB := Aside0.mk (fo_isReg a0_3 true (by simp [hB]))
 have e0 : (0 ≤ a0_2) = True := eq_true hA.1
 have e1 : (a0_2 < (l1.length : Int)) = True := eq_true (by omega)
 have e0b : decide (0 ≤ a0_2) = true := decide_eq_true hA.1
 have e1b : decide (a0_2 < (l1.length : Int)) = true := decide_eq_true (by omega)
 have e2 : (0 ≤ a0_3) = True := eq_true hB.1
 have e3 : (a0_3 < (l1.length : Int)) = True := eq_true (by omega)
 have e2b : decide (0 ≤ a0_3) = true := decide_eq_true hB.1
 have e3b : decide (a0_3 < (l1.length : Int)) = true := decide_eq_true (by omega)
 have o2 : (a0_0 == 2) = false := beq_eq_false_iff_ne.mpr (by omega)
 have o3 : (a0_0 == 3) = false := beq_eq_false_iff_ne.mpr (by omega)
 have o4 : (a0_0 == 4) = false := beq_eq_false_iff_ne.mpr (by omega)
 have o12 : (a0_0 == 12) = false := beq_eq_false_iff_ne.mpr (by omega)
 clear ho
 clear hA hB hl
 go_enter Try.func99, Try.ntmps99
 go_wp2_with (first | (go_at_call 115; (with_reducible refine (HA.out _).mono ?_); rintro e w' ⟨rfl, ⟨nd, rfl⟩⟩) | (go_at_call 115; (with_reducible refine (HBB.out _).mono ?_); rintro e w' ⟨rfl, ⟨nd, rfl⟩⟩))
 go_region
 all_goals
  go_wp2
  exact bodyPost_ret (v := .agg #[_, _, _, _, _]) att19_0_2 rfl ⟨rfl, att19_0_0⟩

set_option maxHeartbeats 80000000 in
set_option maxRecDepth 100000 in
theorem fo_t6 (a0_0 a0_1 a0_2 a0_3 a0_4 : Int) (A1 : Option Addr) (c1 : Nat) (l1 : List S83) (a2 : Int) (w : World) (hr1 : Kd.C k83 w A1 l1.length l1) (hl : (l1.length : Int) = 4) (hA : (0 ≤ a0_2 ∧ a0_2 ≤ 3)) (hB : (0 ≤ a0_3 ∧ a0_3 ≤ 3)) (kb : Bool) (va vb : Int) (hK : (rd_T83 l1 a0_2).f0 = true) (hva : (rd_T83 l1 a0_2).f1 = va) (hkb : (rd_T83 l1 a0_3).f0 = kb) (hvb : (rd_T83 l1 a0_3).f1 = vb) (ho : a0_0 = 12) (hz : va = 0) :
  Calls Try.prog 99 #[.agg #[.int .i64 a0_0, .int .i64 a0_1, .int .i64 a0_2, .int .i64 a0_3, .int .i64 a0_4], .slice A1 l1.length c1, .int .i64 a2] w fun e w' => e = .returned (.agg #[Value.int .i64 11, .int .i64 0, .int .i64 0, .int .i64 0, .int .i64 a0_4]) ∧ Below w.heap.size w w' := by
 have hu63 := Try.underlying63
 have hu83 := Try.underlying83
 obtain ⟨ad, e, hx0, hy0⟩ := at_T83 hr1 a0_2 hA.1 (by omega)
 cases e
 obtain ⟨ad', e, hp0, hq0⟩ := at_T83 hr1 a0_3 hB.1 (by omega)
 cases e
 rw [hK] at hx0
 rw [hva] at hy0
 rw [hkb] at hp0
 rw [hvb] at hq0
 clear hr1 hK hva hkb hvb
 have hx := fo_a2 a0_0 a0_1 a0_2 a0_3 a0_4 hx0
 have hy := fo_a2 a0_0 a0_1 a0_2 a0_3 a0_4 hy0
 have hp := fo_a2 a0_0 a0_1 a0_2 a0_3 a0_4 hp0
 have hq := fo_a2 a0_0 a0_1 a0_2 a0_3 a0_4 hq0
 have hxU := fo_aU hx
 have hyU := fo_aU hy
 have hpU := fo_aU hp
 have hqU := fo_aU hq
 have hxV := fo_aV hx
 have hyV := fo_aV hy
 have hpV := fo_aV hp
 have hqV := fo_aV hq
 clear hx0 hy0 hp0 hq0
 have c7b0 : ((l1.length : Int) == 4) = true := beq_iff_eq.mpr hl
 have c7b1 : ((l1.length : Int) != 4) = false := bne_eq_false_iff_eq.mpr hl
 have HA := Aside0.mk (fo_isReg a0_2 true (by simp [hA]))
 have HBB := Aside0.mk (fo_isReg a0_3 true (by simp [hB]))
 have e0 : (0 ≤ a0_2) = True := eq_true hA.1
 have e1 : (a0_2 < (l1.length : Int)) = True := eq_true (by omega)
 have e0b : decide (0 ≤ a0_2) = true := decide_eq_true hA.1
 have e1b : decide (a0_2 < (l1.length : Int)) = true := decide_eq_true (by omega)
 have e2 : (0 ≤ a0_3) = True := eq_true hB.1
 have e3 : (a0_3 < (l1.length : Int)) = True := eq_true (by omega)
 have e2b : decide (0 ≤ a0_3) = true := decide_eq_true hB.1
 have e3b : decide (a0_3 < (l1.length : Int)) = true := decide_eq_true (by omega)
 have o2 : (a0_0 == 2) = false := beq_eq_false_iff_ne.mpr (by omega)
 have o3 : (a0_0 == 3) = false := beq_eq_false_iff_ne.mpr (by omega)
 have o4 : (a0_0 == 4) = false := beq_eq_false_iff_ne.mpr (by omega)
 have o12 : (a0_0 == 12) = true := beq_iff_eq.mpr ho
 have z : (va == 0) = true := beq_iff_eq.mpr hz
 clear ho hz
 clear hA hB hl
 go_enter Try.func99, Try.ntmps99
 go_wp2_with (first | (go_at_call 115; (with_reducible refine (HA.out _).mono ?_); rintro e w' ⟨rfl, ⟨nd, rfl⟩⟩) | (go_at_call 115; (with_reducible refine (HBB.out _).mono ?_); rintro e w' ⟨rfl, ⟨nd, rfl⟩⟩))
 go_region
 all_goals
  go_wp2
  exact bodyPost_ret (v := .agg #[_, _, _, _, _]) att19_0_2 rfl ⟨rfl, att19_0_0⟩

set_option maxHeartbeats 80000000 in
set_option maxRecDepth 100000 in
theorem fo_t7 (a0_0 a0_1 a0_2 a0_3 a0_4 : Int) (A1 : Option Addr) (c1 : Nat) (l1 : List S83) (a2 : Int) (w : World) (hr1 : Kd.C k83 w A1 l1.length l1) (hl : (l1.length : Int) = 4) (hA : (0 ≤ a0_2 ∧ a0_2 ≤ 3)) (hB : (0 ≤ a0_3 ∧ a0_3 ≤ 3)) (kb : Bool) (va vb : Int) (hK : (rd_T83 l1 a0_2).f0 = true) (hva : (rd_T83 l1 a0_2).f1 = va) (hkb : (rd_T83 l1 a0_3).f0 = kb) (hvb : (rd_T83 l1 a0_3).f1 = vb) (ho : a0_0 = 12) (hz : ¬ va = 0) :
  Calls Try.prog 99 #[.agg #[.int .i64 a0_0, .int .i64 a0_1, .int .i64 a0_2, .int .i64 a0_3, .int .i64 a0_4], .slice A1 l1.length c1, .int .i64 a2] w fun e w' => e = .returned (.agg #[Value.int .i64 11, .int .i64 0, .int .i64 0, .int .i64 0, .int .i64 a2]) ∧ Below w.heap.size w w' := by
 have hu63 := Try.underlying63
 have hu83 := Try.underlying83
 obtain ⟨ad, e, hx0, hy0⟩ := at_T83 hr1 a0_2 hA.1 (by omega)
 cases e
 obtain ⟨ad', e, hp0, hq0⟩ := at_T83 hr1 a0_3 hB.1 (by omega)
 cases e
 rw [hK] at hx0
 rw [hva] at hy0
 rw [hkb] at hp0
 rw [hvb] at hq0
 clear hr1 hK hva hkb hvb
 have hx := fo_a2 a0_0 a0_1 a0_2 a0_3 a0_4 hx0
 have hy := fo_a2 a0_0 a0_1 a0_2 a0_3 a0_4 hy0
 have hp := fo_a2 a0_0 a0_1 a0_2 a0_3 a0_4 hp0
 have hq := fo_a2 a0_0 a0_1 a0_2 a0_3 a0_4 hq0
 have hxU := fo_aU hx
 have hyU := fo_aU hy
 have hpU := fo_aU hp
 have hqU := fo_aU hq
 have hxV := fo_aV hx
 have hyV := fo_aV hy
 have hpV := fo_aV hp
 have hqV := fo_aV hq
 clear hx0 hy0 hp0 hq0
 have c7b0 : ((l1.length : Int) == 4) = true := beq_iff_eq.mpr hl
 have c7b1 : ((l1.length : Int) != 4) = false := bne_eq_false_iff_eq.mpr hl
 have HA := Aside0.mk (fo_isReg a0_2 true (by simp [hA]))
 have HBB := Aside0.mk (fo_isReg a0_3 true (by simp [hB]))
 have e0 : (0 ≤ a0_2) = True := eq_true hA.1
 have e1 : (a0_2 < (l1.length : Int)) = True := eq_true (by omega)
 have e0b : decide (0 ≤ a0_2) = true := decide_eq_true hA.1
 have e1b : decide (a0_2 < (l1.length : Int)) = true := decide_eq_true (by omega)
 have e2 : (0 ≤ a0_3) = True := eq_true hB.1
 have e3 : (a0_3 < (l1.length : Int)) = True := eq_true (by omega)
 have e2b : decide (0 ≤ a0_3) = true := decide_eq_true hB.1
 have e3b : decide (a0_3 < (l1.length : Int)) = true := decide_eq_true (by omega)
 have o2 : (a0_0 == 2) = false := beq_eq_false_iff_ne.mpr (by omega)
 have o3 : (a0_0 == 3) = false := beq_eq_false_iff_ne.mpr (by omega)
 have o4 : (a0_0 == 4) = false := beq_eq_false_iff_ne.mpr (by omega)
 have o12 : (a0_0 == 12) = true := beq_iff_eq.mpr ho
 have z : (va == 0) = false := beq_eq_false_iff_ne.mpr hz
 clear ho hz
 clear hA hB hl
 go_enter Try.func99, Try.ntmps99
 go_wp2_with (first | (go_at_call 115; (with_reducible refine (HA.out _).mono ?_); rintro e w' ⟨rfl, ⟨nd, rfl⟩⟩) | (go_at_call 115; (with_reducible refine (HBB.out _).mono ?_); rintro e w' ⟨rfl, ⟨nd, rfl⟩⟩))
 go_region
 all_goals
  go_wp2
  exact bodyPost_ret (v := .agg #[_, _, _, _, _]) att19_0_2 rfl ⟨rfl, att19_0_0⟩

set_option maxHeartbeats 80000000 in
set_option maxRecDepth 100000 in
theorem fo_u2 (a0_0 a0_1 a0_2 a0_3 a0_4 : Int) (A1 : Option Addr) (c1 : Nat) (l1 : List S83) (a2 : Int) (w : World) (hr1 : Kd.C k83 w A1 l1.length l1) (hl : (l1.length : Int) = 4) (hA : (0 ≤ a0_2 ∧ a0_2 ≤ 3)) (hB : (0 ≤ a0_3 ∧ a0_3 ≤ 3)) (kb : Bool) (va vb : Int) (hK : (rd_T83 l1 a0_2).f0 = true) (hva : (rd_T83 l1 a0_2).f1 = va) (hkb : (rd_T83 l1 a0_3).f0 = kb) (hvb : (rd_T83 l1 a0_3).f1 = vb) (ho : a0_0 = 2) (hkbf : kb = false) :
  Calls Try.prog 99 #[.agg #[.int .i64 a0_0, .int .i64 a0_1, .int .i64 a0_2, .int .i64 a0_3, .int .i64 a0_4], .slice A1 l1.length c1, .int .i64 a2] w fun e w' => e = .returned (.agg #[Value.int .i64 a0_0, .int .i64 a0_1, .int .i64 a0_2, .int .i64 a0_3, .int .i64 a0_4]) ∧ Below w.heap.size w w' := by
 have hu63 := Try.underlying63
 have hu83 := Try.underlying83
 obtain ⟨ad, e, hx0, hy0⟩ := at_T83 hr1 a0_2 hA.1 (by omega)
 cases e
 obtain ⟨ad', e, hp0, hq0⟩ := at_T83 hr1 a0_3 hB.1 (by omega)
 cases e
 rw [hK] at hx0
 rw [hva] at hy0
 rw [hkb] at hp0
 rw [hvb] at hq0
 clear hr1 hK hva hkb hvb
 have hx := fo_a2 a0_0 a0_1 a0_2 a0_3 a0_4 hx0
 have hy := fo_a2 a0_0 a0_1 a0_2 a0_3 a0_4 hy0
 have hp := fo_a2 a0_0 a0_1 a0_2 a0_3 a0_4 hp0
 have hq := fo_a2 a0_0 a0_1 a0_2 a0_3 a0_4 hq0
 have hxU := fo_aU hx
 have hyU := fo_aU hy
 have hpU := fo_aU hp
 have hqU := fo_aU hq
 have hxV := fo_aV hx
 have hyV := fo_aV hy
 have hpV := fo_aV hp
 have hqV := fo_aV hq
 clear hx0 hy0 hp0 hq0
 have c7b0 : ((l1.length : Int) == 4) = true := beq_iff_eq.mpr hl
 have c7b1 : ((l1.length : Int) != 4) = false := bne_eq_false_iff_eq.mpr hl
 have HA := Aside0.mk (fo_isReg a0_2 true (by simp [hA]))
 have HBB := Aside0.mk (fo_isReg a0_3 true (by simp [hB]))
 have e0 : (0 ≤ a0_2) = True := eq_true hA.1
 have e1 : (a0_2 < (l1.length : Int)) = True := eq_true (by omega)
 have e0b : decide (0 ≤ a0_2) = true := decide_eq_true hA.1
 have e1b : decide (a0_2 < (l1.length : Int)) = true := decide_eq_true (by omega)
 have e2 : (0 ≤ a0_3) = True := eq_true hB.1
 have e3 : (a0_3 < (l1.length : Int)) = True := eq_true (by omega)
 have e2b : decide (0 ≤ a0_3) = true := decide_eq_true hB.1
 have e3b : decide (a0_3 < (l1.length : Int)) = true := decide_eq_true (by omega)
 have o2 : (a0_0 == 2) = true := beq_iff_eq.mpr ho
 have o3 : (a0_0 == 3) = false := beq_eq_false_iff_ne.mpr (by omega)
 have o4 : (a0_0 == 4) = false := beq_eq_false_iff_ne.mpr (by omega)
 have o12 : (a0_0 == 12) = false := beq_eq_false_iff_ne.mpr (by omega)
 have HF := Aside0.mk (fo_comp a0_0 va vb)
 subst hkbf
 clear ho
 clear hA hB hl
 go_enter Try.func99, Try.ntmps99
 go_wp2_with (first | (go_at_call 115; (with_reducible refine (HA.out _).mono ?_); rintro e w' ⟨rfl, ⟨nd, rfl⟩⟩) | (go_at_call 115; (with_reducible refine (HBB.out _).mono ?_); rintro e w' ⟨rfl, ⟨nd, rfl⟩⟩))
 go_region
 all_goals
  go_wp2_with (first | (go_at_call 123; (with_reducible refine (HF.out _).mono ?_); rintro e w' ⟨rfl, ⟨nd, rfl⟩⟩))
  exact bodyPost_ret (v := .agg #[_, _, _, _, _]) att19_0_2 rfl ⟨rfl, att19_0_0⟩

set_option maxHeartbeats 80000000 in
set_option maxRecDepth 100000 in
theorem fo_v2 (a0_0 a0_1 a0_2 a0_3 a0_4 : Int) (A1 : Option Addr) (c1 : Nat) (l1 : List S83) (a2 : Int) (w : World) (hr1 : Kd.C k83 w A1 l1.length l1) (hl : (l1.length : Int) = 4) (hA : (0 ≤ a0_2 ∧ a0_2 ≤ 3)) (hB : (0 ≤ a0_3 ∧ a0_3 ≤ 3)) (kb : Bool) (va vb : Int) (hK : (rd_T83 l1 a0_2).f0 = true) (hva : (rd_T83 l1 a0_2).f1 = va) (hkb : (rd_T83 l1 a0_3).f0 = kb) (hvb : (rd_T83 l1 a0_3).f1 = vb) (ho : a0_0 = 2) (hkbf : kb = true) (hw : ¬ (-1000000000 ≤ foComp a0_0 va vb ∧ foComp a0_0 va vb ≤ 1000000000)) :
  Calls Try.prog 99 #[.agg #[.int .i64 a0_0, .int .i64 a0_1, .int .i64 a0_2, .int .i64 a0_3, .int .i64 a0_4], .slice A1 l1.length c1, .int .i64 a2] w fun e w' => e = .returned (.agg #[Value.int .i64 a0_0, .int .i64 a0_1, .int .i64 a0_2, .int .i64 a0_3, .int .i64 a0_4]) ∧ Below w.heap.size w w' := by
 have hu63 := Try.underlying63
 have hu83 := Try.underlying83
 obtain ⟨ad, e, hx0, hy0⟩ := at_T83 hr1 a0_2 hA.1 (by omega)
 cases e
 obtain ⟨ad', e, hp0, hq0⟩ := at_T83 hr1 a0_3 hB.1 (by omega)
 cases e
 rw [hK] at hx0
 rw [hva] at hy0
 rw [hkb] at hp0
 rw [hvb] at hq0
 clear hr1 hK hva hkb hvb
 have hx := fo_a2 a0_0 a0_1 a0_2 a0_3 a0_4 hx0
 have hy := fo_a2 a0_0 a0_1 a0_2 a0_3 a0_4 hy0
 have hp := fo_a2 a0_0 a0_1 a0_2 a0_3 a0_4 hp0
 have hq := fo_a2 a0_0 a0_1 a0_2 a0_3 a0_4 hq0
 have hxU := fo_aU hx
 have hyU := fo_aU hy
 have hpU := fo_aU hp
 have hqU := fo_aU hq
 have hxV := fo_aV hx
 have hyV := fo_aV hy
 have hpV := fo_aV hp
 have hqV := fo_aV hq
 clear hx0 hy0 hp0 hq0
 have c7b0 : ((l1.length : Int) == 4) = true := beq_iff_eq.mpr hl
 have c7b1 : ((l1.length : Int) != 4) = false := bne_eq_false_iff_eq.mpr hl
 have HA := Aside0.mk (fo_isReg a0_2 true (by simp [hA]))
 have HBB := Aside0.mk (fo_isReg a0_3 true (by simp [hB]))
 have e0 : (0 ≤ a0_2) = True := eq_true hA.1
 have e1 : (a0_2 < (l1.length : Int)) = True := eq_true (by omega)
 have e0b : decide (0 ≤ a0_2) = true := decide_eq_true hA.1
 have e1b : decide (a0_2 < (l1.length : Int)) = true := decide_eq_true (by omega)
 have e2 : (0 ≤ a0_3) = True := eq_true hB.1
 have e3 : (a0_3 < (l1.length : Int)) = True := eq_true (by omega)
 have e2b : decide (0 ≤ a0_3) = true := decide_eq_true hB.1
 have e3b : decide (a0_3 < (l1.length : Int)) = true := decide_eq_true (by omega)
 have o2 : (a0_0 == 2) = true := beq_iff_eq.mpr ho
 have o3 : (a0_0 == 3) = false := beq_eq_false_iff_ne.mpr (by omega)
 have o4 : (a0_0 == 4) = false := beq_eq_false_iff_ne.mpr (by omega)
 have o12 : (a0_0 == 12) = false := beq_eq_false_iff_ne.mpr (by omega)
 have HF := Aside0.mk (fo_comp a0_0 va vb)
 subst hkbf
 have HW := Aside0.mk (fo_within (foComp a0_0 va vb) false (by simp [hw]))
 clear ho hw
 clear hA hB hl
 go_enter Try.func99, Try.ntmps99
 go_wp2_with (first | (go_at_call 115; (with_reducible refine (HA.out _).mono ?_); rintro e w' ⟨rfl, ⟨nd, rfl⟩⟩) | (go_at_call 115; (with_reducible refine (HBB.out _).mono ?_); rintro e w' ⟨rfl, ⟨nd, rfl⟩⟩))
 go_region
 all_goals
  go_wp2_with (first | (go_at_call 123; (with_reducible refine (HF.out _).mono ?_); rintro e w' ⟨rfl, ⟨nd, rfl⟩⟩) | (go_at_call 79; (with_reducible refine (HW.out _).mono ?_); rintro e w' ⟨rfl, ⟨nd, rfl⟩⟩))
  exact bodyPost_ret (v := .agg #[_, _, _, _, _]) att19_0_2 rfl ⟨rfl, att19_0_0⟩

set_option maxHeartbeats 80000000 in
set_option maxRecDepth 100000 in
theorem fo_w2 (a0_0 a0_1 a0_2 a0_3 a0_4 : Int) (A1 : Option Addr) (c1 : Nat) (l1 : List S83) (a2 : Int) (w : World) (hr1 : Kd.C k83 w A1 l1.length l1) (hl : (l1.length : Int) = 4) (hA : (0 ≤ a0_2 ∧ a0_2 ≤ 3)) (hB : (0 ≤ a0_3 ∧ a0_3 ≤ 3)) (kb : Bool) (va vb : Int) (hK : (rd_T83 l1 a0_2).f0 = true) (hva : (rd_T83 l1 a0_2).f1 = va) (hkb : (rd_T83 l1 a0_3).f0 = kb) (hvb : (rd_T83 l1 a0_3).f1 = vb) (ho : a0_0 = 2) (hkbf : kb = true) (hw : (-1000000000 ≤ foComp a0_0 va vb ∧ foComp a0_0 va vb ≤ 1000000000)) :
  Calls Try.prog 99 #[.agg #[.int .i64 a0_0, .int .i64 a0_1, .int .i64 a0_2, .int .i64 a0_3, .int .i64 a0_4], .slice A1 l1.length c1, .int .i64 a2] w fun e w' => e = .returned (.agg #[Value.int .i64 1, .int .i64 a0_1, .int .i64 0, .int .i64 0, .int .i64 (foComp a0_0 va vb)]) ∧ Below w.heap.size w w' := by
 have hu63 := Try.underlying63
 have hu83 := Try.underlying83
 obtain ⟨ad, e, hx0, hy0⟩ := at_T83 hr1 a0_2 hA.1 (by omega)
 cases e
 obtain ⟨ad', e, hp0, hq0⟩ := at_T83 hr1 a0_3 hB.1 (by omega)
 cases e
 rw [hK] at hx0
 rw [hva] at hy0
 rw [hkb] at hp0
 rw [hvb] at hq0
 clear hr1 hK hva hkb hvb
 have hx := fo_a2 a0_0 a0_1 a0_2 a0_3 a0_4 hx0
 have hy := fo_a2 a0_0 a0_1 a0_2 a0_3 a0_4 hy0
 have hp := fo_a2 a0_0 a0_1 a0_2 a0_3 a0_4 hp0
 have hq := fo_a2 a0_0 a0_1 a0_2 a0_3 a0_4 hq0
 have hxU := fo_aU hx
 have hyU := fo_aU hy
 have hpU := fo_aU hp
 have hqU := fo_aU hq
 have hxV := fo_aV hx
 have hyV := fo_aV hy
 have hpV := fo_aV hp
 have hqV := fo_aV hq
 clear hx0 hy0 hp0 hq0
 have c7b0 : ((l1.length : Int) == 4) = true := beq_iff_eq.mpr hl
 have c7b1 : ((l1.length : Int) != 4) = false := bne_eq_false_iff_eq.mpr hl
 have HA := Aside0.mk (fo_isReg a0_2 true (by simp [hA]))
 have HBB := Aside0.mk (fo_isReg a0_3 true (by simp [hB]))
 have e0 : (0 ≤ a0_2) = True := eq_true hA.1
 have e1 : (a0_2 < (l1.length : Int)) = True := eq_true (by omega)
 have e0b : decide (0 ≤ a0_2) = true := decide_eq_true hA.1
 have e1b : decide (a0_2 < (l1.length : Int)) = true := decide_eq_true (by omega)
 have e2 : (0 ≤ a0_3) = True := eq_true hB.1
 have e3 : (a0_3 < (l1.length : Int)) = True := eq_true (by omega)
 have e2b : decide (0 ≤ a0_3) = true := decide_eq_true hB.1
 have e3b : decide (a0_3 < (l1.length : Int)) = true := decide_eq_true (by omega)
 have o2 : (a0_0 == 2) = true := beq_iff_eq.mpr ho
 have o3 : (a0_0 == 3) = false := beq_eq_false_iff_ne.mpr (by omega)
 have o4 : (a0_0 == 4) = false := beq_eq_false_iff_ne.mpr (by omega)
 have o12 : (a0_0 == 12) = false := beq_eq_false_iff_ne.mpr (by omega)
 have HF := Aside0.mk (fo_comp a0_0 va vb)
 subst hkbf
 have HW := Aside0.mk (fo_within (foComp a0_0 va vb) true (by simp [hw]))
 clear ho hw
 clear hA hB hl
 go_enter Try.func99, Try.ntmps99
 go_wp2_with (first | (go_at_call 115; (with_reducible refine (HA.out _).mono ?_); rintro e w' ⟨rfl, ⟨nd, rfl⟩⟩) | (go_at_call 115; (with_reducible refine (HBB.out _).mono ?_); rintro e w' ⟨rfl, ⟨nd, rfl⟩⟩))
 go_region
 all_goals
  go_wp2_with (first | (go_at_call 123; (with_reducible refine (HF.out _).mono ?_); rintro e w' ⟨rfl, ⟨nd, rfl⟩⟩) | (go_at_call 79; (with_reducible refine (HW.out _).mono ?_); rintro e w' ⟨rfl, ⟨nd, rfl⟩⟩))
  exact bodyPost_ret (v := .agg #[_, _, _, _, _]) att19_0_2 rfl ⟨rfl, att19_0_0⟩

set_option maxHeartbeats 80000000 in
set_option maxRecDepth 100000 in
theorem fo_u3 (a0_0 a0_1 a0_2 a0_3 a0_4 : Int) (A1 : Option Addr) (c1 : Nat) (l1 : List S83) (a2 : Int) (w : World) (hr1 : Kd.C k83 w A1 l1.length l1) (hl : (l1.length : Int) = 4) (hA : (0 ≤ a0_2 ∧ a0_2 ≤ 3)) (hB : (0 ≤ a0_3 ∧ a0_3 ≤ 3)) (kb : Bool) (va vb : Int) (hK : (rd_T83 l1 a0_2).f0 = true) (hva : (rd_T83 l1 a0_2).f1 = va) (hkb : (rd_T83 l1 a0_3).f0 = kb) (hvb : (rd_T83 l1 a0_3).f1 = vb) (ho : a0_0 = 3) (hkbf : kb = false) :
  Calls Try.prog 99 #[.agg #[.int .i64 a0_0, .int .i64 a0_1, .int .i64 a0_2, .int .i64 a0_3, .int .i64 a0_4], .slice A1 l1.length c1, .int .i64 a2] w fun e w' => e = .returned (.agg #[Value.int .i64 a0_0, .int .i64 a0_1, .int .i64 a0_2, .int .i64 a0_3, .int .i64 a0_4]) ∧ Below w.heap.size w w' := by
 have hu63 := Try.underlying63
 have hu83 := Try.underlying83
 obtain ⟨ad, e, hx0, hy0⟩ := at_T83 hr1 a0_2 hA.1 (by omega)
 cases e
 obtain ⟨ad', e, hp0, hq0⟩ := at_T83 hr1 a0_3 hB.1 (by omega)
 cases e
 rw [hK] at hx0
 rw [hva] at hy0
 rw [hkb] at hp0
 rw [hvb] at hq0
 clear hr1 hK hva hkb hvb
 have hx := fo_a2 a0_0 a0_1 a0_2 a0_3 a0_4 hx0
 have hy := fo_a2 a0_0 a0_1 a0_2 a0_3 a0_4 hy0
 have hp := fo_a2 a0_0 a0_1 a0_2 a0_3 a0_4 hp0
 have hq := fo_a2 a0_0 a0_1 a0_2 a0_3 a0_4 hq0
 have hxU := fo_aU hx
 have hyU := fo_aU hy
 have hpU := fo_aU hp
 have hqU := fo_aU hq
 have hxV := fo_aV hx
 have hyV := fo_aV hy
 have hpV := fo_aV hp
 have hqV := fo_aV hq
 clear hx0 hy0 hp0 hq0
 have c7b0 : ((l1.length : Int) == 4) = true := beq_iff_eq.mpr hl
 have c7b1 : ((l1.length : Int) != 4) = false := bne_eq_false_iff_eq.mpr hl
 have HA := Aside0.mk (fo_isReg a0_2 true (by simp [hA]))
 have HBB := Aside0.mk (fo_isReg a0_3 true (by simp [hB]))
 have e0 : (0 ≤ a0_2) = True := eq_true hA.1
 have e1 : (a0_2 < (l1.length : Int)) = True := eq_true (by omega)
 have e0b : decide (0 ≤ a0_2) = true := decide_eq_true hA.1
 have e1b : decide (a0_2 < (l1.length : Int)) = true := decide_eq_true (by omega)
 have e2 : (0 ≤ a0_3) = True := eq_true hB.1
 have e3 : (a0_3 < (l1.length : Int)) = True := eq_true (by omega)
 have e2b : decide (0 ≤ a0_3) = true := decide_eq_true hB.1
 have e3b : decide (a0_3 < (l1.length : Int)) = true := decide_eq_true (by omega)
 have o2 : (a0_0 == 2) = false := beq_eq_false_iff_ne.mpr (by omega)
 have o3 : (a0_0 == 3) = true := beq_iff_eq.mpr ho
 have o4 : (a0_0 == 4) = false := beq_eq_false_iff_ne.mpr (by omega)
 have o12 : (a0_0 == 12) = false := beq_eq_false_iff_ne.mpr (by omega)
 have HF := Aside0.mk (fo_comp a0_0 va vb)
 subst hkbf
 clear ho
 clear hA hB hl
 go_enter Try.func99, Try.ntmps99
 go_wp2_with (first | (go_at_call 115; (with_reducible refine (HA.out _).mono ?_); rintro e w' ⟨rfl, ⟨nd, rfl⟩⟩) | (go_at_call 115; (with_reducible refine (HBB.out _).mono ?_); rintro e w' ⟨rfl, ⟨nd, rfl⟩⟩))
 go_region
 all_goals
  go_wp2_with (first | (go_at_call 123; (with_reducible refine (HF.out _).mono ?_); rintro e w' ⟨rfl, ⟨nd, rfl⟩⟩))
  exact bodyPost_ret (v := .agg #[_, _, _, _, _]) att19_0_2 rfl ⟨rfl, att19_0_0⟩

set_option maxHeartbeats 80000000 in
set_option maxRecDepth 100000 in
theorem fo_v3 (a0_0 a0_1 a0_2 a0_3 a0_4 : Int) (A1 : Option Addr) (c1 : Nat) (l1 : List S83) (a2 : Int) (w : World) (hr1 : Kd.C k83 w A1 l1.length l1) (hl : (l1.length : Int) = 4) (hA : (0 ≤ a0_2 ∧ a0_2 ≤ 3)) (hB : (0 ≤ a0_3 ∧ a0_3 ≤ 3)) (kb : Bool) (va vb : Int) (hK : (rd_T83 l1 a0_2).f0 = true) (hva : (rd_T83 l1 a0_2).f1 = va) (hkb : (rd_T83 l1 a0_3).f0 = kb) (hvb : (rd_T83 l1 a0_3).f1 = vb) (ho : a0_0 = 3) (hkbf : kb = true) (hw : ¬ (-1000000000 ≤ foComp a0_0 va vb ∧ foComp a0_0 va vb ≤ 1000000000)) :
  Calls Try.prog 99 #[.agg #[.int .i64 a0_0, .int .i64 a0_1, .int .i64 a0_2, .int .i64 a0_3, .int .i64 a0_4], .slice A1 l1.length c1, .int .i64 a2] w fun e w' => e = .returned (.agg #[Value.int .i64 a0_0, .int .i64 a0_1, .int .i64 a0_2, .int .i64 a0_3, .int .i64 a0_4]) ∧ Below w.heap.size w w' := by
 have hu63 := Try.underlying63
 have hu83 := Try.underlying83
 obtain ⟨ad, e, hx0, hy0⟩ := at_T83 hr1 a0_2 hA.1 (by omega)
 cases e
 obtain ⟨ad', e, hp0, hq0⟩ := at_T83 hr1 a0_3 hB.1 (by omega)
 cases e
 rw [hK] at hx0
 rw [hva] at hy0
 rw [hkb] at hp0
 rw [hvb] at hq0
 clear hr1 hK hva hkb hvb
 have hx := fo_a2 a0_0 a0_1 a0_2 a0_3 a0_4 hx0
 have hy := fo_a2 a0_0 a0_1 a0_2 a0_3 a0_4 hy0
 have hp := fo_a2 a0_0 a0_1 a0_2 a0_3 a0_4 hp0
 have hq := fo_a2 a0_0 a0_1 a0_2 a0_3 a0_4 hq0
 have hxU := fo_aU hx
 have hyU := fo_aU hy
 have hpU := fo_aU hp
 have hqU := fo_aU hq
 have hxV := fo_aV hx
 have hyV := fo_aV hy
 have hpV := fo_aV hp
 have hqV := fo_aV hq
 clear hx0 hy0 hp0 hq0
 have c7b0 : ((l1.length : Int) == 4) = true := beq_iff_eq.mpr hl
 have c7b1 : ((l1.length : Int) != 4) = false := bne_eq_false_iff_eq.mpr hl
 have HA := Aside0.mk (fo_isReg a0_2 true (by simp [hA]))
 have HBB := Aside0.mk (fo_isReg a0_3 true (by simp [hB]))
 have e0 : (0 ≤ a0_2) = True := eq_true hA.1
 have e1 : (a0_2 < (l1.length : Int)) = True := eq_true (by omega)
 have e0b : decide (0 ≤ a0_2) = true := decide_eq_true hA.1
 have e1b : decide (a0_2 < (l1.length : Int)) = true := decide_eq_true (by omega)
 have e2 : (0 ≤ a0_3) = True := eq_true hB.1
 have e3 : (a0_3 < (l1.length : Int)) = True := eq_true (by omega)
 have e2b : decide (0 ≤ a0_3) = true := decide_eq_true hB.1
 have e3b : decide (a0_3 < (l1.length : Int)) = true := decide_eq_true (by omega)
 have o2 : (a0_0 == 2) = false := beq_eq_false_iff_ne.mpr (by omega)
 have o3 : (a0_0 == 3) = true := beq_iff_eq.mpr ho
 have o4 : (a0_0 == 4) = false := beq_eq_false_iff_ne.mpr (by omega)
 have o12 : (a0_0 == 12) = false := beq_eq_false_iff_ne.mpr (by omega)
 have HF := Aside0.mk (fo_comp a0_0 va vb)
 subst hkbf
 have HW := Aside0.mk (fo_within (foComp a0_0 va vb) false (by simp [hw]))
 clear ho hw
 clear hA hB hl
 go_enter Try.func99, Try.ntmps99
 go_wp2_with (first | (go_at_call 115; (with_reducible refine (HA.out _).mono ?_); rintro e w' ⟨rfl, ⟨nd, rfl⟩⟩) | (go_at_call 115; (with_reducible refine (HBB.out _).mono ?_); rintro e w' ⟨rfl, ⟨nd, rfl⟩⟩))
 go_region
 all_goals
  go_wp2_with (first | (go_at_call 123; (with_reducible refine (HF.out _).mono ?_); rintro e w' ⟨rfl, ⟨nd, rfl⟩⟩) | (go_at_call 79; (with_reducible refine (HW.out _).mono ?_); rintro e w' ⟨rfl, ⟨nd, rfl⟩⟩))
  exact bodyPost_ret (v := .agg #[_, _, _, _, _]) att19_0_2 rfl ⟨rfl, att19_0_0⟩

set_option maxHeartbeats 80000000 in
set_option maxRecDepth 100000 in
theorem fo_w3 (a0_0 a0_1 a0_2 a0_3 a0_4 : Int) (A1 : Option Addr) (c1 : Nat) (l1 : List S83) (a2 : Int) (w : World) (hr1 : Kd.C k83 w A1 l1.length l1) (hl : (l1.length : Int) = 4) (hA : (0 ≤ a0_2 ∧ a0_2 ≤ 3)) (hB : (0 ≤ a0_3 ∧ a0_3 ≤ 3)) (kb : Bool) (va vb : Int) (hK : (rd_T83 l1 a0_2).f0 = true) (hva : (rd_T83 l1 a0_2).f1 = va) (hkb : (rd_T83 l1 a0_3).f0 = kb) (hvb : (rd_T83 l1 a0_3).f1 = vb) (ho : a0_0 = 3) (hkbf : kb = true) (hw : (-1000000000 ≤ foComp a0_0 va vb ∧ foComp a0_0 va vb ≤ 1000000000)) :
  Calls Try.prog 99 #[.agg #[.int .i64 a0_0, .int .i64 a0_1, .int .i64 a0_2, .int .i64 a0_3, .int .i64 a0_4], .slice A1 l1.length c1, .int .i64 a2] w fun e w' => e = .returned (.agg #[Value.int .i64 1, .int .i64 a0_1, .int .i64 0, .int .i64 0, .int .i64 (foComp a0_0 va vb)]) ∧ Below w.heap.size w w' := by
 have hu63 := Try.underlying63
 have hu83 := Try.underlying83
 obtain ⟨ad, e, hx0, hy0⟩ := at_T83 hr1 a0_2 hA.1 (by omega)
 cases e
 obtain ⟨ad', e, hp0, hq0⟩ := at_T83 hr1 a0_3 hB.1 (by omega)
 cases e
 rw [hK] at hx0
 rw [hva] at hy0
 rw [hkb] at hp0
 rw [hvb] at hq0
 clear hr1 hK hva hkb hvb
 have hx := fo_a2 a0_0 a0_1 a0_2 a0_3 a0_4 hx0
 have hy := fo_a2 a0_0 a0_1 a0_2 a0_3 a0_4 hy0
 have hp := fo_a2 a0_0 a0_1 a0_2 a0_3 a0_4 hp0
 have hq := fo_a2 a0_0 a0_1 a0_2 a0_3 a0_4 hq0
 have hxU := fo_aU hx
 have hyU := fo_aU hy
 have hpU := fo_aU hp
 have hqU := fo_aU hq
 have hxV := fo_aV hx
 have hyV := fo_aV hy
 have hpV := fo_aV hp
 have hqV := fo_aV hq
 clear hx0 hy0 hp0 hq0
 have c7b0 : ((l1.length : Int) == 4) = true := beq_iff_eq.mpr hl
 have c7b1 : ((l1.length : Int) != 4) = false := bne_eq_false_iff_eq.mpr hl
 have HA := Aside0.mk (fo_isReg a0_2 true (by simp [hA]))
 have HBB := Aside0.mk (fo_isReg a0_3 true (by simp [hB]))
 have e0 : (0 ≤ a0_2) = True := eq_true hA.1
 have e1 : (a0_2 < (l1.length : Int)) = True := eq_true (by omega)
 have e0b : decide (0 ≤ a0_2) = true := decide_eq_true hA.1
 have e1b : decide (a0_2 < (l1.length : Int)) = true := decide_eq_true (by omega)
 have e2 : (0 ≤ a0_3) = True := eq_true hB.1
 have e3 : (a0_3 < (l1.length : Int)) = True := eq_true (by omega)
 have e2b : decide (0 ≤ a0_3) = true := decide_eq_true hB.1
 have e3b : decide (a0_3 < (l1.length : Int)) = true := decide_eq_true (by omega)
 have o2 : (a0_0 == 2) = false := beq_eq_false_iff_ne.mpr (by omega)
 have o3 : (a0_0 == 3) = true := beq_iff_eq.mpr ho
 have o4 : (a0_0 == 4) = false := beq_eq_false_iff_ne.mpr (by omega)
 have o12 : (a0_0 == 12) = false := beq_eq_false_iff_ne.mpr (by omega)
 have HF := Aside0.mk (fo_comp a0_0 va vb)
 subst hkbf
 have HW := Aside0.mk (fo_within (foComp a0_0 va vb) true (by simp [hw]))
 clear ho hw
 clear hA hB hl
 go_enter Try.func99, Try.ntmps99
 go_wp2_with (first | (go_at_call 115; (with_reducible refine (HA.out _).mono ?_); rintro e w' ⟨rfl, ⟨nd, rfl⟩⟩) | (go_at_call 115; (with_reducible refine (HBB.out _).mono ?_); rintro e w' ⟨rfl, ⟨nd, rfl⟩⟩))
 go_region
 all_goals
  go_wp2_with (first | (go_at_call 123; (with_reducible refine (HF.out _).mono ?_); rintro e w' ⟨rfl, ⟨nd, rfl⟩⟩) | (go_at_call 79; (with_reducible refine (HW.out _).mono ?_); rintro e w' ⟨rfl, ⟨nd, rfl⟩⟩))
  exact bodyPost_ret (v := .agg #[_, _, _, _, _]) att19_0_2 rfl ⟨rfl, att19_0_0⟩

set_option maxHeartbeats 80000000 in
set_option maxRecDepth 100000 in
theorem fo_u4 (a0_0 a0_1 a0_2 a0_3 a0_4 : Int) (A1 : Option Addr) (c1 : Nat) (l1 : List S83) (a2 : Int) (w : World) (hr1 : Kd.C k83 w A1 l1.length l1) (hl : (l1.length : Int) = 4) (hA : (0 ≤ a0_2 ∧ a0_2 ≤ 3)) (hB : (0 ≤ a0_3 ∧ a0_3 ≤ 3)) (kb : Bool) (va vb : Int) (hK : (rd_T83 l1 a0_2).f0 = true) (hva : (rd_T83 l1 a0_2).f1 = va) (hkb : (rd_T83 l1 a0_3).f0 = kb) (hvb : (rd_T83 l1 a0_3).f1 = vb) (ho : a0_0 = 4) (hkbf : kb = false) :
  Calls Try.prog 99 #[.agg #[.int .i64 a0_0, .int .i64 a0_1, .int .i64 a0_2, .int .i64 a0_3, .int .i64 a0_4], .slice A1 l1.length c1, .int .i64 a2] w fun e w' => e = .returned (.agg #[Value.int .i64 a0_0, .int .i64 a0_1, .int .i64 a0_2, .int .i64 a0_3, .int .i64 a0_4]) ∧ Below w.heap.size w w' := by
 have hu63 := Try.underlying63
 have hu83 := Try.underlying83
 obtain ⟨ad, e, hx0, hy0⟩ := at_T83 hr1 a0_2 hA.1 (by omega)
 cases e
 obtain ⟨ad', e, hp0, hq0⟩ := at_T83 hr1 a0_3 hB.1 (by omega)
 cases e
 rw [hK] at hx0
 rw [hva] at hy0
 rw [hkb] at hp0
 rw [hvb] at hq0
 clear hr1 hK hva hkb hvb
 have hx := fo_a2 a0_0 a0_1 a0_2 a0_3 a0_4 hx0
 have hy := fo_a2 a0_0 a0_1 a0_2 a0_3 a0_4 hy0
 have hp := fo_a2 a0_0 a0_1 a0_2 a0_3 a0_4 hp0
 have hq := fo_a2 a0_0 a0_1 a0_2 a0_3 a0_4 hq0
 have hxU := fo_aU hx
 have hyU := fo_aU hy
 have hpU := fo_aU hp
 have hqU := fo_aU hq
 have hxV := fo_aV hx
 have hyV := fo_aV hy
 have hpV := fo_aV hp
 have hqV := fo_aV hq
 clear hx0 hy0 hp0 hq0
 have c7b0 : ((l1.length : Int) == 4) = true := beq_iff_eq.mpr hl
 have c7b1 : ((l1.length : Int) != 4) = false := bne_eq_false_iff_eq.mpr hl
 have HA := Aside0.mk (fo_isReg a0_2 true (by simp [hA]))
 have HBB := Aside0.mk (fo_isReg a0_3 true (by simp [hB]))
 have e0 : (0 ≤ a0_2) = True := eq_true hA.1
 have e1 : (a0_2 < (l1.length : Int)) = True := eq_true (by omega)
 have e0b : decide (0 ≤ a0_2) = true := decide_eq_true hA.1
 have e1b : decide (a0_2 < (l1.length : Int)) = true := decide_eq_true (by omega)
 have e2 : (0 ≤ a0_3) = True := eq_true hB.1
 have e3 : (a0_3 < (l1.length : Int)) = True := eq_true (by omega)
 have e2b : decide (0 ≤ a0_3) = true := decide_eq_true hB.1
 have e3b : decide (a0_3 < (l1.length : Int)) = true := decide_eq_true (by omega)
 have o2 : (a0_0 == 2) = false := beq_eq_false_iff_ne.mpr (by omega)
 have o3 : (a0_0 == 3) = false := beq_eq_false_iff_ne.mpr (by omega)
 have o4 : (a0_0 == 4) = true := beq_iff_eq.mpr ho
 have o12 : (a0_0 == 12) = false := beq_eq_false_iff_ne.mpr (by omega)
 have HF := Aside0.mk (fo_comp a0_0 va vb)
 subst hkbf
 clear ho
 clear hA hB hl
 go_enter Try.func99, Try.ntmps99
 go_wp2_with (first | (go_at_call 115; (with_reducible refine (HA.out _).mono ?_); rintro e w' ⟨rfl, ⟨nd, rfl⟩⟩) | (go_at_call 115; (with_reducible refine (HBB.out _).mono ?_); rintro e w' ⟨rfl, ⟨nd, rfl⟩⟩))
 go_region
 all_goals
  go_wp2_with (first | (go_at_call 123; (with_reducible refine (HF.out _).mono ?_); rintro e w' ⟨rfl, ⟨nd, rfl⟩⟩))
  exact bodyPost_ret (v := .agg #[_, _, _, _, _]) att19_0_2 rfl ⟨rfl, att19_0_0⟩

set_option maxHeartbeats 80000000 in
set_option maxRecDepth 100000 in
theorem fo_v4 (a0_0 a0_1 a0_2 a0_3 a0_4 : Int) (A1 : Option Addr) (c1 : Nat) (l1 : List S83) (a2 : Int) (w : World) (hr1 : Kd.C k83 w A1 l1.length l1) (hl : (l1.length : Int) = 4) (hA : (0 ≤ a0_2 ∧ a0_2 ≤ 3)) (hB : (0 ≤ a0_3 ∧ a0_3 ≤ 3)) (kb : Bool) (va vb : Int) (hK : (rd_T83 l1 a0_2).f0 = true) (hva : (rd_T83 l1 a0_2).f1 = va) (hkb : (rd_T83 l1 a0_3).f0 = kb) (hvb : (rd_T83 l1 a0_3).f1 = vb) (ho : a0_0 = 4) (hkbf : kb = true) (hw : ¬ (-1000000000 ≤ foComp a0_0 va vb ∧ foComp a0_0 va vb ≤ 1000000000)) :
  Calls Try.prog 99 #[.agg #[.int .i64 a0_0, .int .i64 a0_1, .int .i64 a0_2, .int .i64 a0_3, .int .i64 a0_4], .slice A1 l1.length c1, .int .i64 a2] w fun e w' => e = .returned (.agg #[Value.int .i64 a0_0, .int .i64 a0_1, .int .i64 a0_2, .int .i64 a0_3, .int .i64 a0_4]) ∧ Below w.heap.size w w' := by
 have hu63 := Try.underlying63
 have hu83 := Try.underlying83
 obtain ⟨ad, e, hx0, hy0⟩ := at_T83 hr1 a0_2 hA.1 (by omega)
 cases e
 obtain ⟨ad', e, hp0, hq0⟩ := at_T83 hr1 a0_3 hB.1 (by omega)
 cases e
 rw [hK] at hx0
 rw [hva] at hy0
 rw [hkb] at hp0
 rw [hvb] at hq0
 clear hr1 hK hva hkb hvb
 have hx := fo_a2 a0_0 a0_1 a0_2 a0_3 a0_4 hx0
 have hy := fo_a2 a0_0 a0_1 a0_2 a0_3 a0_4 hy0
 have hp := fo_a2 a0_0 a0_1 a0_2 a0_3 a0_4 hp0
 have hq := fo_a2 a0_0 a0_1 a0_2 a0_3 a0_4 hq0
 have hxU := fo_aU hx
 have hyU := fo_aU hy
 have hpU := fo_aU hp
 have hqU := fo_aU hq
 have hxV := fo_aV hx
 have hyV := fo_aV hy
 have hpV := fo_aV hp
 have hqV := fo_aV hq
 clear hx0 hy0 hp0 hq0
 have c7b0 : ((l1.length : Int) == 4) = true := beq_iff_eq.mpr hl
 have c7b1 : ((l1.length : Int) != 4) = false := bne_eq_false_iff_eq.mpr hl
 have HA := Aside0.mk (fo_isReg a0_2 true (by simp [hA]))
 have HBB := Aside0.mk (fo_isReg a0_3 true (by simp [hB]))
 have e0 : (0 ≤ a0_2) = True := eq_true hA.1
 have e1 : (a0_2 < (l1.length : Int)) = True := eq_true (by omega)
 have e0b : decide (0 ≤ a0_2) = true := decide_eq_true hA.1
 have e1b : decide (a0_2 < (l1.length : Int)) = true := decide_eq_true (by omega)
 have e2 : (0 ≤ a0_3) = True := eq_true hB.1
 have e3 : (a0_3 < (l1.length : Int)) = True := eq_true (by omega)
 have e2b : decide (0 ≤ a0_3) = true := decide_eq_true hB.1
 have e3b : decide (a0_3 < (l1.length : Int)) = true := decide_eq_true (by omega)
 have o2 : (a0_0 == 2) = false := beq_eq_false_iff_ne.mpr (by omega)
 have o3 : (a0_0 == 3) = false := beq_eq_false_iff_ne.mpr (by omega)
 have o4 : (a0_0 == 4) = true := beq_iff_eq.mpr ho
 have o12 : (a0_0 == 12) = false := beq_eq_false_iff_ne.mpr (by omega)
 have HF := Aside0.mk (fo_comp a0_0 va vb)
 subst hkbf
 have HW := Aside0.mk (fo_within (foComp a0_0 va vb) false (by simp [hw]))
 clear ho hw
 clear hA hB hl
 go_enter Try.func99, Try.ntmps99
 go_wp2_with (first | (go_at_call 115; (with_reducible refine (HA.out _).mono ?_); rintro e w' ⟨rfl, ⟨nd, rfl⟩⟩) | (go_at_call 115; (with_reducible refine (HBB.out _).mono ?_); rintro e w' ⟨rfl, ⟨nd, rfl⟩⟩))
 go_region
 all_goals
  go_wp2_with (first | (go_at_call 123; (with_reducible refine (HF.out _).mono ?_); rintro e w' ⟨rfl, ⟨nd, rfl⟩⟩) | (go_at_call 79; (with_reducible refine (HW.out _).mono ?_); rintro e w' ⟨rfl, ⟨nd, rfl⟩⟩))
  exact bodyPost_ret (v := .agg #[_, _, _, _, _]) att19_0_2 rfl ⟨rfl, att19_0_0⟩

set_option maxHeartbeats 80000000 in
set_option maxRecDepth 100000 in
theorem fo_w4 (a0_0 a0_1 a0_2 a0_3 a0_4 : Int) (A1 : Option Addr) (c1 : Nat) (l1 : List S83) (a2 : Int) (w : World) (hr1 : Kd.C k83 w A1 l1.length l1) (hl : (l1.length : Int) = 4) (hA : (0 ≤ a0_2 ∧ a0_2 ≤ 3)) (hB : (0 ≤ a0_3 ∧ a0_3 ≤ 3)) (kb : Bool) (va vb : Int) (hK : (rd_T83 l1 a0_2).f0 = true) (hva : (rd_T83 l1 a0_2).f1 = va) (hkb : (rd_T83 l1 a0_3).f0 = kb) (hvb : (rd_T83 l1 a0_3).f1 = vb) (ho : a0_0 = 4) (hkbf : kb = true) (hw : (-1000000000 ≤ foComp a0_0 va vb ∧ foComp a0_0 va vb ≤ 1000000000)) :
  Calls Try.prog 99 #[.agg #[.int .i64 a0_0, .int .i64 a0_1, .int .i64 a0_2, .int .i64 a0_3, .int .i64 a0_4], .slice A1 l1.length c1, .int .i64 a2] w fun e w' => e = .returned (.agg #[Value.int .i64 1, .int .i64 a0_1, .int .i64 0, .int .i64 0, .int .i64 (foComp a0_0 va vb)]) ∧ Below w.heap.size w w' := by
 have hu63 := Try.underlying63
 have hu83 := Try.underlying83
 obtain ⟨ad, e, hx0, hy0⟩ := at_T83 hr1 a0_2 hA.1 (by omega)
 cases e
 obtain ⟨ad', e, hp0, hq0⟩ := at_T83 hr1 a0_3 hB.1 (by omega)
 cases e
 rw [hK] at hx0
 rw [hva] at hy0
 rw [hkb] at hp0
 rw [hvb] at hq0
 clear hr1 hK hva hkb hvb
 have hx := fo_a2 a0_0 a0_1 a0_2 a0_3 a0_4 hx0
 have hy := fo_a2 a0_0 a0_1 a0_2 a0_3 a0_4 hy0
 have hp := fo_a2 a0_0 a0_1 a0_2 a0_3 a0_4 hp0
 have hq := fo_a2 a0_0 a0_1 a0_2 a0_3 a0_4 hq0
 have hxU := fo_aU hx
 have hyU := fo_aU hy
 have hpU := fo_aU hp
 have hqU := fo_aU hq
 have hxV := fo_aV hx
 have hyV := fo_aV hy
 have hpV := fo_aV hp
 have hqV := fo_aV hq
 clear hx0 hy0 hp0 hq0
 have c7b0 : ((l1.length : Int) == 4) = true := beq_iff_eq.mpr hl
 have c7b1 : ((l1.length : Int) != 4) = false := bne_eq_false_iff_eq.mpr hl
 have HA := Aside0.mk (fo_isReg a0_2 true (by simp [hA]))
 have HBB := Aside0.mk (fo_isReg a0_3 true (by simp [hB]))
 have e0 : (0 ≤ a0_2) = True := eq_true hA.1
 have e1 : (a0_2 < (l1.length : Int)) = True := eq_true (by omega)
 have e0b : decide (0 ≤ a0_2) = true := decide_eq_true hA.1
 have e1b : decide (a0_2 < (l1.length : Int)) = true := decide_eq_true (by omega)
 have e2 : (0 ≤ a0_3) = True := eq_true hB.1
 have e3 : (a0_3 < (l1.length : Int)) = True := eq_true (by omega)
 have e2b : decide (0 ≤ a0_3) = true := decide_eq_true hB.1
 have e3b : decide (a0_3 < (l1.length : Int)) = true := decide_eq_true (by omega)
 have o2 : (a0_0 == 2) = false := beq_eq_false_iff_ne.mpr (by omega)
 have o3 : (a0_0 == 3) = false := beq_eq_false_iff_ne.mpr (by omega)
 have o4 : (a0_0 == 4) = true := beq_iff_eq.mpr ho
 have o12 : (a0_0 == 12) = false := beq_eq_false_iff_ne.mpr (by omega)
 have HF := Aside0.mk (fo_comp a0_0 va vb)
 subst hkbf
 have HW := Aside0.mk (fo_within (foComp a0_0 va vb) true (by simp [hw]))
 clear ho hw
 clear hA hB hl
 go_enter Try.func99, Try.ntmps99
 go_wp2_with (first | (go_at_call 115; (with_reducible refine (HA.out _).mono ?_); rintro e w' ⟨rfl, ⟨nd, rfl⟩⟩) | (go_at_call 115; (with_reducible refine (HBB.out _).mono ?_); rintro e w' ⟨rfl, ⟨nd, rfl⟩⟩))
 go_region
 all_goals
  go_wp2_with (first | (go_at_call 123; (with_reducible refine (HF.out _).mono ?_); rintro e w' ⟨rfl, ⟨nd, rfl⟩⟩) | (go_at_call 79; (with_reducible refine (HW.out _).mono ?_); rintro e w' ⟨rfl, ⟨nd, rfl⟩⟩))
  exact bodyPost_ret (v := .agg #[_, _, _, _, _]) att19_0_2 rfl ⟨rfl, att19_0_0⟩
def foX (a0_0 a0_1 a0_2 a0_3 a0_4 : Int) : Int × Int × Int × Int × Int := (a0_0, a0_1, a0_2, a0_3, a0_4)
def foG (a0_0 a0_1 a0_2 a0_3 a0_4 : Int) (l : List S83) (a2 : Int) : Int × Int × Int × Int × Int :=
 if (l.length : Int) = 4 ∧ (0 ≤ a0_2 ∧ a0_2 ≤ 3) ∧ (0 ≤ a0_3 ∧ a0_3 ≤ 3) ∧ (rd_T83 l a0_2).f0 = true then
  (if a0_0 = 2 ∨ a0_0 = 3 ∨ a0_0 = 4 then
   (if (rd_T83 l a0_3).f0 = true ∧ (-1000000000 ≤ foComp a0_0 (rd_T83 l a0_2).f1 (rd_T83 l a0_3).f1 ∧ foComp a0_0 (rd_T83 l a0_2).f1 (rd_T83 l a0_3).f1 ≤ 1000000000) then (1, a0_1, 0, 0, foComp a0_0 (rd_T83 l a0_2).f1 (rd_T83 l a0_3).f1) else (a0_0, a0_1, a0_2, a0_3, a0_4))
  else (if a0_0 = 12 then (if (rd_T83 l a0_2).f1 = 0 then (11, 0, 0, 0, a0_4) else (11, 0, 0, 0, a2)) else (a0_0, a0_1, a0_2, a0_3, a0_4)))
 else (a0_0, a0_1, a0_2, a0_3, a0_4)
def impl_FoldOne.f (a0_0 a0_1 a0_2 a0_3 a0_4 : Int) (l : List S83) (a2 : Int) : Option (Int × Int × Int × Int × Int) := some (foG a0_0 a0_1 a0_2 a0_3 a0_4 l a2)
theorem impl_FoldOne.calls (a0_0 : Int) (a0_1 : Int) (a0_2 : Int) (a0_3 : Int) (a0_4 : Int) (A1 : Option Addr) (c1 : Nat) (l1 : List (S83)) (a2 : Int) (r1 : Int) (r2 : Int) (r3 : Int) (r4 : Int) (r5 : Int) (w : World) (hr1 : Kd.C k83 w A1 l1.length l1) (hc1 : l1.length ≤ c1) (h : impl_FoldOne.f a0_0 a0_1 a0_2 a0_3 a0_4 l1 a2 = some (r1, r2, r3, r4, r5)) :
  Calls Try.prog 99 #[.agg #[.int .i64 a0_0, .int .i64 a0_1, .int .i64 a0_2, .int .i64 a0_3, .int .i64 a0_4], .slice A1 l1.length c1, .int .i64 a2] w fun e w' => e = .returned (.agg #[.int .i64 r1, .int .i64 r2, .int .i64 r3, .int .i64 r4, .int .i64 r5]) ∧ Below w.heap.size w w' := by
 replace h := Option.some.inj h
 unfold foG at h
 by_cases hl : (l1.length : Int) = 4
 case neg =>
  rw [if_neg (fun x => hl x.1)] at h
  obtain ⟨rfl, rfl, rfl, rfl, rfl⟩ := h
  exact fo_t1 _ _ _ _ _ A1 c1 l1 a2 w hl
 by_cases hA : (0 ≤ a0_2 ∧ a0_2 ≤ 3)
 case neg =>
  rw [if_neg (fun x => hA x.2.1)] at h
  obtain ⟨rfl, rfl, rfl, rfl, rfl⟩ := h
  exact fo_t2 _ _ _ _ _ A1 c1 l1 a2 w hl hA
 by_cases hB : (0 ≤ a0_3 ∧ a0_3 ≤ 3)
 case neg =>
  rw [if_neg (fun x => hB x.2.2.1)] at h
  obtain ⟨rfl, rfl, rfl, rfl, rfl⟩ := h
  exact fo_t3 _ _ _ _ _ A1 c1 l1 a2 w hl hA hB
 by_cases hK : (rd_T83 l1 a0_2).f0 = true
 case neg =>
  rw [if_neg (fun x => hK x.2.2.2)] at h
  obtain ⟨rfl, rfl, rfl, rfl, rfl⟩ := h
  exact fo_t4 _ _ _ _ _ A1 c1 l1 a2 w hr1 hl hA hB (Bool.eq_false_iff.mpr hK)
 rw [if_pos ⟨hl, hA, hB, hK⟩] at h
 by_cases ho : a0_0 = 2 ∨ a0_0 = 3 ∨ a0_0 = 4
 ·rw [if_pos ho] at h
  by_cases hb : (rd_T83 l1 a0_3).f0 = true
  ·by_cases hw : (-1000000000 ≤ foComp a0_0 (rd_T83 l1 a0_2).f1 (rd_T83 l1 a0_3).f1 ∧ foComp a0_0 (rd_T83 l1 a0_2).f1 (rd_T83 l1 a0_3).f1 ≤ 1000000000)
   ·rw [if_pos ⟨hb, hw⟩] at h
    simp only [Prod.mk.injEq] at h
    obtain ⟨rfl, rfl, rfl, rfl, rfl⟩ := h
    rcases ho with ho | ho | ho
    ·exact fo_w2 a0_0 _ _ _ a0_4 A1 c1 l1 a2 w hr1 hl hA hB true _ _ hK rfl hb rfl ho rfl hw
    ·exact fo_w3 a0_0 _ _ _ a0_4 A1 c1 l1 a2 w hr1 hl hA hB true _ _ hK rfl hb rfl ho rfl hw
    ·exact fo_w4 a0_0 _ _ _ a0_4 A1 c1 l1 a2 w hr1 hl hA hB true _ _ hK rfl hb rfl ho rfl hw
   ·rw [if_neg (fun x => hw x.2)] at h
    simp only [Prod.mk.injEq] at h
    obtain ⟨rfl, rfl, rfl, rfl, rfl⟩ := h
    rcases ho with ho | ho | ho
    ·exact fo_v2 _ _ _ _ _ A1 c1 l1 a2 w hr1 hl hA hB true _ _ hK rfl hb rfl ho rfl hw
    ·exact fo_v3 _ _ _ _ _ A1 c1 l1 a2 w hr1 hl hA hB true _ _ hK rfl hb rfl ho rfl hw
    ·exact fo_v4 _ _ _ _ _ A1 c1 l1 a2 w hr1 hl hA hB true _ _ hK rfl hb rfl ho rfl hw
  ·rw [if_neg (fun x => hb x.1)] at h
   simp only [Prod.mk.injEq] at h
   obtain ⟨rfl, rfl, rfl, rfl, rfl⟩ := h
   rcases ho with ho | ho | ho
   ·exact fo_u2 _ _ _ _ _ A1 c1 l1 a2 w hr1 hl hA hB false _ _ hK rfl (Bool.eq_false_iff.mpr hb) rfl ho rfl
   ·exact fo_u3 _ _ _ _ _ A1 c1 l1 a2 w hr1 hl hA hB false _ _ hK rfl (Bool.eq_false_iff.mpr hb) rfl ho rfl
   ·exact fo_u4 _ _ _ _ _ A1 c1 l1 a2 w hr1 hl hA hB false _ _ hK rfl (Bool.eq_false_iff.mpr hb) rfl ho rfl
 ·rw [if_neg ho] at h
  by_cases h12 : a0_0 = 12
  ·rw [if_pos h12] at h
   by_cases hz : (rd_T83 l1 a0_2).f1 = 0
   ·rw [if_pos hz] at h
    simp only [Prod.mk.injEq] at h
    obtain ⟨rfl, rfl, rfl, rfl, rfl⟩ := h
    exact fo_t6 a0_0 a0_1 _ _ a0_4 A1 c1 l1 a2 w hr1 hl hA hB _ _ _ hK rfl rfl rfl h12 hz
   ·rw [if_neg hz] at h
    simp only [Prod.mk.injEq] at h
    obtain ⟨rfl, rfl, rfl, rfl, rfl⟩ := h
    exact fo_t7 a0_0 a0_1 _ _ a0_4 A1 c1 l1 a2 w hr1 hl hA hB _ _ _ hK rfl rfl rfl h12 hz
  ·rw [if_neg h12] at h
   simp only [Prod.mk.injEq] at h
   obtain ⟨rfl, rfl, rfl, rfl, rfl⟩ := h
   exact fo_t5 _ _ _ _ _ A1 c1 l1 a2 w hr1 hl hA hB _ _ _ hK rfl rfl rfl ⟨by omega, by omega, by omega, h12⟩

end Go.Proofs.Ytocimkpafakiaaa.XFnExactFoldBody
