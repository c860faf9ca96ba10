/- Each Go function that the law reaches as a Lean function, and that Go comes to just its answer; written by this session's xprint.py over the kit's printer. -/
import Derived.Test.YtonlhgkpmjefkaaXFnExactEmitx0
namespace Go.Proofs.Ytonlhgkpmjefkaa.XFnExactEmit
open Go.RowKit Go.Proofs.YtonlhgkpmjefkaaW.PrintWords Go.Proofs.YtonlhgkpmjefkaaW.PrintLast Go.Proofs.YtonlhgkpmjefkaaW.PrintMore
attribute [local go_sem] max2_int min2_int max_two min_two max_three min_three max_four min_four   -- for this text's walks alone
set_option linter.unusedVariables false
set_option linter.unusedSimpArgs false

theorem att14_0_1 {p : Prop} (h : p := by repeat (first | (with_reducible first | exact HB.out | apply below_alloc | apply pw_below_drewN | apply below_drew1 | refine below_set ?_ GE666.out) | exact HB.out)) : p := h
theorem att14_0_2 {p : Prop} (h : p := by (with_reducible repeat (first | refine blk_drewN ?_ _ | refine blk_drew ?_ | refine blk_alloc ?_ _)); exact BK666.out) : p := h
theorem att14_0_4 {p : Prop} (h : p := by repeat (first | (with_reducible first | exact HB.out | apply below_alloc | apply pw_below_drewN | apply below_drew1 | refine below_set ?_ GE666.out | refine below_set ?_ GE667.out) | exact HB.out)) : p := h
theorem att14_0_5 {p : Prop} (h : p := by (with_reducible repeat (first | refine blk_drewN ?_ _ | refine blk_drew ?_ | refine blk_alloc ?_ _)); exact BK663.out) : p := h
theorem att14_0_6 {p : Prop} (h : p := by repeat (first | (with_reducible first | exact HB.out | apply below_alloc | apply pw_below_drewN | apply below_drew1 | refine below_set ?_ GE663.out | refine below_set ?_ GE664.out) | exact HB.out)) : p := h
theorem att14_0_8 {p : Prop} (h : p := by repeat (first | (with_reducible first | exact HK.out | apply Kept.alloc | apply Kept.drewN | apply Kept.drew) | exact HK.out)) : p := h
theorem att14_0_9 {p : Prop} (h : p := by repeat (first | (with_reducible first | exact HB.out | apply below_alloc | apply pw_below_drewN | apply below_drew1 | refine below_set ?_ GE663.out) | exact HB.out)) : p := h
theorem att14_0_10 {p : Prop} (h : p := by rintro w' ⟨s0, s1, s2, s3, s4, s5, s6, s7, s8, s9⟩; go_simp; with_reducible rfl) : p := h
theorem att14_0_11 {p : Prop} (h : p := by (with_reducible repeat (first | refine blk_drewN ?_ _ | refine blk_drew ?_ | refine blk_alloc ?_ _)); exact BK664.out) : p := h
/-! ### laws_toIntS: function 36 -/
def laws_toIntS.l0 : Nat → List Int → List Int → Int → Option (List Int)
 | 0, _, _, _ => none
 | k + 1, x0, x3, x4 => if x4 < (x0.length : Int) then (if 0 ≤ x4 then (if x4 < (x3.length : Int) then (laws_toIntS.l0 k x0 (x3.set (x4 : Int).toNat (rd x0 x4)) (wrap64 (x4 + 1))) else (none)) else (none)) else (some x3)
def laws_toIntS.f (k : Nat) (l0 : List Int) : Option (List Int) := if 0 ≤ (l0.length : Int) then (if ((l0.length : Int) : Int).toNat ≤ 35184372088832 then (laws_toIntS.l0 k l0 (List.replicate ((l0.length : Int) : Int).toNat 0) 0) else (none)) else (none)
theorem laws_toIntS.mono_l : ∀ k, (∀ y0 y1 y2, LeO (laws_toIntS.l0 k y0 y1 y2) (laws_toIntS.l0 (k + 1) y0 y1 y2))
 | 0 => fun _ _ _ r h => by simp [laws_toIntS.l0] at h
 | k + 1 => by
  have ih0 := laws_toIntS.mono_l k
  ·intro y0 y1 y2
   unfold laws_toIntS.l0
   repeat' (with_reducible first | exact ih0 .. | exact LeO.refl _ | exact LeO.none _ | refine LeO.ite ?_ ?_ | refine LeO.bind ?_ (fun _ => ?_))
theorem laws_toIntS.mono : ∀ a0 k, LeO (laws_toIntS.f k a0) (laws_toIntS.f (k + 1) a0) := by
 intro a0 k
 have ih0 := laws_toIntS.mono_l k
 unfold laws_toIntS.f
 repeat' (with_reducible first | exact ih0 .. | exact LeO.refl _ | exact LeO.none _ | refine LeO.ite ?_ ?_ | refine LeO.bind ?_ (fun _ => ?_))
set_option maxHeartbeats 80000000 in
set_option maxRecDepth 100000 in
theorem laws_toIntS.calls (k : Nat) (A0 : Option Addr) (c0 : Nat) (l0 : List Int) (r : List Int) (w : World) (hr0 : Kd.C (Kd.int .i64) w A0 l0.length l0) (hc0 : l0.length ≤ c0) (h : laws_toIntS.f k l0 = some r) :
  Calls Try.prog 36 #[.slice A0 l0.length c0] w fun e w' => ∃ v0_ : Value, e = .returned (v0_) ∧ Kd.R (Kd.int .i64) 3 w' w.heap.size (fun _ => True) v0_ r ∧ Below w.heap.size w w' := by
 have HR0 := Aside0.mk hr0
 have HC0 := Aside0.mk hc0
 clear hr0 hc0
 have HB := Aside0.mk (Below.refl w.heap.size w)
 have H : (if 0 ≤ (l0.length : Int) then (if ((l0.length : Int) : Int).toNat ≤ 35184372088832 then (laws_toIntS.l0 k l0 (List.replicate ((l0.length : Int) : Int).toNat 0) 0) else (none)) else (none)) = some r := h
 clear h
 by_cases c2 : 0 ≤ (l0.length : Int)
 ·rw [if_pos c2] at H
  have c2b0 := eq_true c2
  have c2b1 := decide_eq_true c2
  clear c2
  by_cases c3 : ((l0.length : Int) : Int).toNat ≤ 35184372088832
  ·rw [if_pos c3] at H
   have c3b0 := eq_true c3
   have c3b1 := decide_eq_true c3
   clear c3
   obtain ⟨y655, hy655⟩ : ∃ y_ : List Int, y_ = (List.replicate ((l0.length : Int) : Int).toNat 0) := ⟨_, rfl⟩
   replace H : (laws_toIntS.l0 k l0 y655 0) = some r := by rw [hy655]; exact H
   have Ny655 := Aside0.mk hy655
   clear hy655
   have H' := Aside0.mk H
   clear H
   go_enter Try.func36, Try.ntmps36
   go_wp2_with (first | ((with_reducible refine gate_dst (N := 7) rfl ?_); refine Kd.R_make (Kd.int .i64) _ 3 rfl (N := 7) rfl 22 _ _ rfl (l0.length : Int) rfl rfl Try.underlying22 (.int .i64 0) 8 info3 rfl (by decide) (by omega) 0 (ok := fun _ => True) (okp := fun _ => True) rfl (fun _ hk => hk) trivial (of_decide_eq_true atgA_) (Nat.le_trans (Nat.mul_le_mul_right _ (of_decide_eq_true atgA_ : (l0.length : Int).toNat ≤ 35184372088832)) (by omega)) (Below.refl _ _) (Nat.le_refl _) ?_; intro v656 w4 ho5 hb hg_ hnew_; clear hg_ hnew_; (first | rw [← Ny655.out] at ho5 | (simp only [Int.reduceToNat] at ho5; rw [← Ny655.out] at ho5)); refine swap2_ (Kd.R_lower ho5 (below_size atgB_)) (below_step atgB_ hb) ?_; clear HB; intro HO657 HB; clear hb ho5))
   go_loopg [4] k (fun kq v4 w' => ∃ (x3_1 : List Int) (x4_1 : Int), v4 = .int .i64 x4_1 ∧ Aside0 (laws_toIntS.l0 kq l0 x3_1 x4_1 = some r) ∧ Aside0 (kq ≤ k) ∧ Aside0 (Kd.R (Kd.int .i64) 3 w' w.heap.size (fun _ => True) v656 x3_1) ∧ Aside0 (Below w.heap.size w w'))
   case atStart => exact ⟨(y655), (0), atgR_, H', ⟨Nat.le_refl _⟩, ⟨by exact toR_ (HO657.out)⟩, ⟨atgB_⟩⟩
   case round =>
    clear H'
    try clear c2
    try clear c2b0
    try clear c2b1
    try clear p2
    try clear c3
    try clear c3b0
    try clear c3b1
    obtain ⟨x3_1, x4_1, rfl, HA, HK1, HO_3, HB⟩ := hrel
    cases gk with
    | zero => exact absurd HA.out (by simp [laws_toIntS.l0])
    | succ k1 =>
     have H := HA.out
     clear HA
     simp only [laws_toIntS.l0] at H
     by_cases c6 : x4_1 < (l0.length : Int)
     ·rw [if_pos c6] at H
      have c6b0 := decide_eq_true c6
      clear c6
      by_cases c7 : 0 ≤ x4_1
      ·rw [if_pos c7] at H
       have c7b0 := decide_eq_true c7
       clear c7
       by_cases c8 : x4_1 < (x3_1.length : Int)
       ·rw [if_pos c8] at H
        have c8b0 := decide_eq_true c8
        clear c8
        obtain ⟨y659, hy659⟩ : ∃ y_ : List Int, y_ = (x3_1.set (x4_1 : Int).toNat (rd l0 x4_1)) := ⟨_, rfl⟩
        replace H : (laws_toIntS.l0 k1 l0 y659 (wrap64 (x4_1 + 1))) = some r := by rw [hy659]; exact H
        have Ny659 := Aside0.mk hy659
        clear hy659
        have H' := Aside0.mk H
        clear H
        have p658 : 0 ≤ (x4_1 : Int) := of_decide_eq_true atgA_
        have q658 : x4_1 < (l0.length : Int) := of_decide_eq_true atgA_
        obtain ⟨ad658, e658, hx658_0⟩ := Kd.at_int HR0.out x4_1 p658 q658
        cases e658
        replace hx658_0 := blc_ HB hx658_0
        replace p658 := eq_true p658
        replace q658 := eq_true q658
        have p9 : 0 ≤ (x4_1 : Int) := of_decide_eq_true atgA_
        have q9 : (x4_1 : Int) < ((x3_1.length : Int) : Int) := of_decide_eq_true atgA_
        obtain ⟨go9, co9, eo9, gb9, gl9, cl9, HG9⟩ := Kd.R_form HO_3.out (by omega)
        (first | cases eo9 | (injection eo9 with ea_ en_ ec_; (first | subst ea_ | (injection ea_ with ea_; subst ea_)); subst ec_; clear en_))
        have GB9 := Aside0.mk gb9
        have GG9 := Aside0.mk HG9
        clear gb9 gl9 HG9
        obtain ⟨hx9_0, hf9_0⟩ := Kd.R_celln 0 HO_3.out (x4_1 : Int) p9 q9
        replace p9 := eq_true p9
        replace q9 := eq_true q9
        have HP10 := Kd.R_putg HO_3.out (x4_1 : Int) (rd l0 x4_1)
        go_wp2_with (first | ((with_reducible refine gate_store (t := 3) (p := 20) rfl ?_); refine store_event (t := 3) (p := 20) (v := ?vo_w11) (w1 := (wr.setCell ⟨go9, (x4_1 : Int).toNat, none⟩ (.int .i64 (rd l0 x4_1)))) ?hg ?ho ?hn ?hr ?_; (case ho => rfl); (case hg => rfl); (case hn => rfl); (case hr => first | (go_simp; done) | (go_simp; rfl)); intro w11 hw; have hg : wr.grownBy w11 (some go9) := (by rw [hw]; exact HP10.2); have hp_ : Kd.R (Kd.int .i64) 3 w11 w.heap.size (fun _ => True) (.slice (some ⟨go9, 0, none⟩) x3_1.length co9) y659 := (by rw [hw, Ny659.out]; exact HP10.1); clear HP10; refine swap2_ (hp_) ((by rw [hw]; exact below_set (HB.out) GB9.out : Below w.heap.size w w11)) ?_; clear HO_3 HB; intro HO_3 HB; clear hg hw hp_))
        go_roundg k1
        case measure => have := HK1.out; omega
        case rel => exact ⟨(y659), (wrap64 (x4_1 + 1)), atgR_, H', ⟨by have := HK1.out; omega⟩, ⟨by exact toR_ (HO_3.out)⟩, ⟨atgB_⟩⟩
       ·rw [if_neg c8] at H
        exact absurd H (by simp)
      ·rw [if_neg c7] at H
       exact absurd H (by simp)
     ·rw [if_neg c6] at H
      have c6b0 := decide_eq_false c6
      clear c6
      obtain rfl := Option.some.inj H
      go_wp2
      go_ret
      exact ⟨_, retT_, by exact toR_ (HO_3.out), atgB_⟩
  ·rw [if_neg c3] at H
   exact absurd H (by simp)
 ·rw [if_neg c2] at H
  exact absurd H (by simp)

/-! ### laws_eqIntS: function 38 -/
def laws_eqIntS.l0 : Nat → List Int → List Int → Int → Option (Bool)
 | 0, _, _, _ => none
 | k + 1, x0, x1, x5 => if x5 < (x0.length : Int) then (if 0 ≤ x5 then (if x5 < (x1.length : Int) then (if (rd x0 x5) = (rd x1 x5) then (laws_eqIntS.l0 k x0 x1 (wrap64 (x5 + 1))) else (some false)) else (none)) else (none)) else (some true)
def laws_eqIntS.f (k : Nat) (l0 : List Int) (l1 : List Int) : Option (Bool) := if (l0.length : Int) = (l1.length : Int) then (laws_eqIntS.l0 k l0 l1 0) else (some false)
theorem laws_eqIntS.mono_l : ∀ k, (∀ y0 y1 y2, LeO (laws_eqIntS.l0 k y0 y1 y2) (laws_eqIntS.l0 (k + 1) y0 y1 y2))
 | 0 => fun _ _ _ r h => by simp [laws_eqIntS.l0] at h
 | k + 1 => by
  have ih0 := laws_eqIntS.mono_l k
  ·intro y0 y1 y2
   unfold laws_eqIntS.l0
   repeat' (with_reducible first | exact ih0 .. | exact LeO.refl _ | exact LeO.none _ | refine LeO.ite ?_ ?_ | refine LeO.bind ?_ (fun _ => ?_))
theorem laws_eqIntS.mono : ∀ a0 a1 k, LeO (laws_eqIntS.f k a0 a1) (laws_eqIntS.f (k + 1) a0 a1) := by
 intro a0 a1 k
 have ih0 := laws_eqIntS.mono_l k
 unfold laws_eqIntS.f
 repeat' (with_reducible first | exact ih0 .. | exact LeO.refl _ | exact LeO.none _ | refine LeO.ite ?_ ?_ | refine LeO.bind ?_ (fun _ => ?_))
set_option maxHeartbeats 80000000 in
set_option maxRecDepth 100000 in
theorem laws_eqIntS.calls (k : Nat) (A0 : Option Addr) (c0 : Nat) (l0 : List Int) (A1 : Option Addr) (c1 : Nat) (l1 : List Int) (r : Bool) (w : World) (hr0 : Kd.C (Kd.int .i64) w A0 l0.length l0) (hc0 : l0.length ≤ c0) (hr1 : Kd.C (Kd.int .i64) w A1 l1.length l1) (hc1 : l1.length ≤ c1) (h : laws_eqIntS.f k l0 l1 = some r) :
  Calls Try.prog 38 #[.slice A0 l0.length c0, .slice A1 l1.length c1] w fun e w' => e = .returned (.bool r) ∧ Drawn0 w w' := by
 have HR0 := Aside0.mk hr0
 have HC0 := Aside0.mk hc0
 clear hr0 hc0
 have HR1 := Aside0.mk hr1
 have HC1 := Aside0.mk hc1
 clear hr1 hc1
 have H : (if (l0.length : Int) = (l1.length : Int) then (laws_eqIntS.l0 k l0 l1 0) else (some false)) = some r := h
 clear h
 by_cases c3 : (l0.length : Int) = (l1.length : Int)
 ·rw [if_pos c3] at H
  have c3b0 := beq_iff_eq.mpr c3
  have c3b1 := bne_eq_false_iff_eq.mpr c3
  have c3b2 : (l0.length == l1.length) = true := by first | simpa using c3 | (simp at c3 ⊢; omega)
  clear c3
  have H' := Aside0.mk H
  clear H
  go_enter Try.func38, Try.ntmps38
  go_wp2
  repeat (go_quiet (fail); try go_wp2)
  go_loopg [5] k (fun kq v5 w' => ∃ (x5_1 : Int), v5 = .int .i64 x5_1 ∧ Aside0 (laws_eqIntS.l0 kq l0 l1 x5_1 = some r) ∧ Aside0 (kq ≤ k) ∧ Drawn0 w w')
  case atStart => exact ⟨(0), atgR_, H', ⟨Nat.le_refl _⟩, atgD_⟩
  case round =>
   clear H'
   try clear c1
   try clear p2
   try clear c3
   try clear c3b0
   try clear c3b1
   try clear c3b2
   obtain ⟨x5_1, rfl, HA, HK1, ⟨m1, rfl⟩⟩ := hrel
   cases gk with
   | zero => exact absurd HA.out (by simp [laws_eqIntS.l0])
   | succ k1 =>
    have H := HA.out
    clear HA
    simp only [laws_eqIntS.l0] at H
    by_cases c4 : x5_1 < (l0.length : Int)
    ·rw [if_pos c4] at H
     have c4b0 := decide_eq_true c4
     clear c4
     by_cases c5 : 0 ≤ x5_1
     ·rw [if_pos c5] at H
      have c5b0 := decide_eq_true c5
      clear c5
      by_cases c6 : x5_1 < (l1.length : Int)
      ·rw [if_pos c6] at H
       have c6b0 := decide_eq_true c6
       clear c6
       by_cases c7 : (rd l0 x5_1) = (rd l1 x5_1)
       ·rw [if_pos c7] at H
        have c7b0 := beq_iff_eq.mpr c7
        have c7b1 := bne_eq_false_iff_eq.mpr c7
        clear c7
        have H' := Aside0.mk H
        clear H
        have p660 : 0 ≤ (x5_1 : Int) := of_decide_eq_true atgA_
        have q660 : x5_1 < (l0.length : Int) := of_decide_eq_true atgA_
        obtain ⟨ad660, e660, hx660_0⟩ := Kd.at_int HR0.out x5_1 p660 q660
        cases e660
        replace p660 := eq_true p660
        replace q660 := eq_true q660
        have p661 : 0 ≤ (x5_1 : Int) := of_decide_eq_true atgA_
        have q661 : x5_1 < (l1.length : Int) := of_decide_eq_true atgA_
        obtain ⟨ad661, e661, hx661_0⟩ := Kd.at_int HR1.out x5_1 p661 q661
        cases e661
        replace p661 := eq_true p661
        replace q661 := eq_true q661
        go_wp2
        repeat (go_quiet (fail); try go_wp2)
        go_roundg k1
        case measure => have := HK1.out; omega
        case rel => exact ⟨(wrap64 (x5_1 + 1)), atgR_, H', ⟨by have := HK1.out; omega⟩, atgD_⟩
       ·rw [if_neg c7] at H
        have c7b0 := beq_eq_false_iff_ne.mpr c7
        have c7b1 := bne_iff_ne.mpr c7
        obtain rfl := Option.some.inj H
        have p660 : 0 ≤ (x5_1 : Int) := of_decide_eq_true atgA_
        have q660 : x5_1 < (l0.length : Int) := of_decide_eq_true atgA_
        obtain ⟨ad660, e660, hx660_0⟩ := Kd.at_int HR0.out x5_1 p660 q660
        cases e660
        replace p660 := eq_true p660
        replace q660 := eq_true q660
        have p661 : 0 ≤ (x5_1 : Int) := of_decide_eq_true atgA_
        have q661 : x5_1 < (l1.length : Int) := of_decide_eq_true atgA_
        obtain ⟨ad661, e661, hx661_0⟩ := Kd.at_int HR1.out x5_1 p661 q661
        cases e661
        replace p661 := eq_true p661
        replace q661 := eq_true q661
        go_wp2
        repeat (go_quiet (fail); try go_wp2)
        go_ret
        exact ⟨by first | rfl | (simp; done) | (simp [*]; done), atgD_⟩
      ·rw [if_neg c6] at H
       exact absurd H (by simp)
     ·rw [if_neg c5] at H
      exact absurd H (by simp)
    ·rw [if_neg c4] at H
     have c4b0 := decide_eq_false c4
     clear c4
     obtain rfl := Option.some.inj H
     go_wp2
     repeat (go_quiet (fail); try go_wp2)
     go_ret
     exact ⟨by first | rfl | (simp; done) | (simp [*]; done), atgD_⟩
 ·rw [if_neg c3] at H
  have c3b0 := beq_eq_false_iff_ne.mpr c3
  have c3b1 := bne_iff_ne.mpr c3
  have c3b2 : (l0.length == l1.length) = false := by first | simpa using c3 | (simp at c3 ⊢; omega)
  obtain rfl := Option.some.inj H
  go_enter Try.func38, Try.ntmps38
  go_wp2
  repeat (go_quiet (fail); try go_wp2)
  go_ret
  exact ⟨by first | rfl | (simp; done) | (simp [*]; done), atgD_⟩

/-! ### laws_markIntS: function 39 -/
def laws_markIntS.l0 : Nat → List Int → Int → Int → Option (Int × List Int)
 | 0, _, _, _ => none
 | k + 1, x0, x1, x5 => if x5 < (x0.length : Int) then (if 0 ≤ x5 then (laws_markIntS.l0 k (x0.set (x5 : Int).toNat x1) (wrap64 (x1 + 1)) (wrap64 (x5 + 1))) else (none)) else (some (x1, x0))
def laws_markIntS.f (k : Nat) (l0 : List Int) (a1 : Int) : Option (Int × List Int) := laws_markIntS.l0 k l0 a1 0
theorem laws_markIntS.mono_l : ∀ k, (∀ y0 y1 y2, LeO (laws_markIntS.l0 k y0 y1 y2) (laws_markIntS.l0 (k + 1) y0 y1 y2))
 | 0 => fun _ _ _ r h => by simp [laws_markIntS.l0] at h
 | k + 1 => by
  have ih0 := laws_markIntS.mono_l k
  ·intro y0 y1 y2
   unfold laws_markIntS.l0
   repeat' (with_reducible first | exact ih0 .. | exact LeO.refl _ | exact LeO.none _ | refine LeO.ite ?_ ?_ | refine LeO.bind ?_ (fun _ => ?_))
theorem laws_markIntS.mono : ∀ a0 a1 k, LeO (laws_markIntS.f k a0 a1) (laws_markIntS.f (k + 1) a0 a1) := by
 intro a0 a1 k
 have ih0 := laws_markIntS.mono_l k
 unfold laws_markIntS.f
 repeat' (with_reducible first | exact ih0 .. | exact LeO.refl _ | exact LeO.none _ | refine LeO.ite ?_ ?_ | refine LeO.bind ?_ (fun _ => ?_))
set_option maxHeartbeats 80000000 in
set_option maxRecDepth 100000 in
theorem laws_markIntS.calls (k : Nat) (P0_ : Nat → Prop) (u9000_ : Value) (l0 : List Int) (a1 : Int) (r1 : Int) (r2 : List Int) (w0 w : World) (hB : Below w0.heap.size w0 w) (ho0 : Kd.R (Kd.int .i64) 3 w w0.heap.size P0_ u9000_ l0) (h : laws_markIntS.f k l0 a1 = some (r1, r2)) :
  Calls Try.prog 39 #[u9000_, .int .i64 a1] w fun e w' => e = .returned (.int .i64 r1) ∧ Kd.R (Kd.int .i64) 3 w' w0.heap.size (fun k_ => (P0_ k_ ∨ w.heap.size ≤ k_)) u9000_ r2 ∧ Below w0.heap.size w0 w' ∧ Kept w w' (fun k_ => P0_ k_) := by
 have HO0 := Aside0.mk (show Kd.R (Kd.int .i64) 3 w w0.heap.size (fun k_ => (P0_ k_ ∨ w.heap.size ≤ k_)) u9000_ l0 from Kd.R_mono ho0 (fun k_ hk => (.inl hk)))
 have HK := Aside0.mk (Kept.refl w (fun k_ => P0_ k_))
 have HW0 := Aside0.mk hB.size
 have HB := Aside0.mk hB
 clear hB
 have H : (laws_markIntS.l0 k l0 a1 0) = some (r1, r2) := h
 clear h
 have H' := Aside0.mk H
 clear H
 go_enter Try.func39, Try.ntmps39
 go_wp2
 go_loopg [1, 5] k (fun kq v1 v5 w' => ∃ (x0_1 : List Int) (x1_1 : Int) (x5_1 : Int), v1 = .int .i64 x1_1 ∧ v5 = .int .i64 x5_1 ∧ Aside0 (laws_markIntS.l0 kq x0_1 x1_1 x5_1 = some (r1, r2)) ∧ Aside0 (kq ≤ k) ∧ Aside0 (Kd.R (Kd.int .i64) 3 w' w0.heap.size (fun k_ => (P0_ k_ ∨ w.heap.size ≤ k_)) u9000_ x0_1) ∧ Aside0 (Kept w w' (fun k_ => P0_ k_)) ∧ Aside0 (Below w0.heap.size w0 w'))
 case atStart => exact ⟨(l0), (a1), (0), atgR_, atgR_, H', ⟨Nat.le_refl _⟩, ⟨by exact toR_ (HO0.out)⟩, ⟨att14_0_8⟩, ⟨atgB_⟩⟩
 case round =>
  clear H'
  try clear p2
  obtain ⟨x0_1, x1_1, x5_1, rfl, rfl, HA, HK1, HO_0, HK, HB⟩ := hrel
  cases gk with
  | zero => exact absurd HA.out (by simp [laws_markIntS.l0])
  | succ k1 =>
   have H := HA.out
   clear HA
   simp only [laws_markIntS.l0] at H
   by_cases c3 : x5_1 < (x0_1.length : Int)
   ·rw [if_pos c3] at H
    have c3b0 := decide_eq_true c3
    clear c3
    by_cases c4 : 0 ≤ x5_1
    ·rw [if_pos c4] at H
     have c4b0 := decide_eq_true c4
     clear c4
     obtain ⟨y662, hy662⟩ : ∃ y_ : List Int, y_ = (x0_1.set (x5_1 : Int).toNat x1_1) := ⟨_, rfl⟩
     replace H : (laws_markIntS.l0 k1 y662 (wrap64 (x1_1 + 1)) (wrap64 (x5_1 + 1))) = some (r1, r2) := by rw [hy662]; exact H
     have Ny662 := Aside0.mk hy662
     clear hy662
     have H' := Aside0.mk H
     clear H
     obtain ⟨Ao6, co6, eo6⟩ := Kd.R_slice HO_0.out
     subst eo6
     have p5 : 0 ≤ (x5_1 : Int) := of_decide_eq_true atgA_
     have q5 : (x5_1 : Int) < ((x0_1.length : Int) : Int) := of_decide_eq_true atgA_
     obtain ⟨go5, co5, eo5, gb5, gl5, cl5, HG5⟩ := Kd.R_form HO_0.out (by omega)
     (first | cases eo5 | (injection eo5 with ea_ en_ ec_; (first | subst ea_ | (injection ea_ with ea_; subst ea_)); subst ec_; clear en_))
     have GB5 := Aside0.mk gb5
     have GG5 := Aside0.mk HG5
     clear gb5 gl5 HG5
     have HMgo5 := Aside0.mk (show (P0_ go5 ∨ w.heap.size ≤ go5) from (HO_0.out.1 _ rfl))
     obtain ⟨hx5_0, hf5_0⟩ := Kd.R_celln 0 HO_0.out (x5_1 : Int) p5 q5
     replace p5 := eq_true p5
     replace q5 := eq_true q5
     have HP7 := Kd.R_putg HO_0.out (x5_1 : Int) x1_1
     go_wp2_with (first | ((with_reducible refine gate_store (t := 3) (p := 15) rfl ?_); refine store_event (t := 3) (p := 15) (v := ?vo_w8) (w1 := (wr.setCell ⟨go5, (x5_1 : Int).toNat, none⟩ (.int .i64 x1_1))) ?hg ?ho ?hn ?hr ?_; (case ho => rfl); (case hg => rfl); (case hn => rfl); (case hr => first | (go_simp; done) | (go_simp; rfl)); intro w8 hw; have hg : wr.grownBy w8 (some go5) := (by rw [hw]; exact HP7.2); have hp_ : Kd.R (Kd.int .i64) 3 w8 w0.heap.size (fun k_ => (P0_ k_ ∨ w.heap.size ≤ k_)) (.slice (some ⟨go5, 0, none⟩) x0_1.length co6) y662 := (by rw [hw, Ny662.out]; exact HP7.1); clear HP7; refine swap3_ (hp_) ((by rw [hw]; exact below_set (HB.out) GB5.out : Below w0.heap.size w0 w8)) (Kept.of_grown (S := (fun k_ => P0_ k_)) hg att14_0_8 (fun k_ e_ => (HO_0.out.1 k_ e_))) ?_; clear HO_0 HB HK; intro HO_0 HB HK; clear hg hw hp_))
     go_roundg k1
     case measure => have := HK1.out; omega
     case rel => exact ⟨(y662), (wrap64 (x1_1 + 1)), (wrap64 (x5_1 + 1)), atgR_, atgR_, H', ⟨by have := HK1.out; omega⟩, ⟨by exact toR_ (HO_0.out)⟩, ⟨att14_0_8⟩, ⟨atgB_⟩⟩
    ·rw [if_neg c4] at H
     exact absurd H (by simp)
   ·rw [if_neg c3] at H
    have c3b0 := decide_eq_false c3
    clear c3
    simp only [Option.some.injEq, Prod.mk.injEq] at H
    obtain ⟨rfl, rfl⟩ := H
    obtain ⟨Ao9, co9, eo9⟩ := Kd.R_slice HO_0.out
    subst eo9
    go_wp2
    go_ret
    exact ⟨retT_, by exact toR_ (HO_0.out), by repeat (first | (with_reducible first | exact HB.out | apply below_alloc | apply pw_below_drewN | apply below_drew1) | exact HB.out), att14_0_8⟩

/-! ### laws_toIns: function 67 -/
def laws_toIns.f (a0_0 : Int) (a0_1 : Int) (a0_2 : Int) (a0_3 : Int) (a0_4 : Int) : Option (Int × Int × Int × Int × Int) := some (a0_0, a0_1, a0_2, a0_3, a0_4)
set_option maxHeartbeats 80000000 in
set_option maxRecDepth 100000 in
theorem laws_toIns.calls (a0_0 : Int) (a0_1 : Int) (a0_2 : Int) (a0_3 : Int) (a0_4 : Int) (r1 : Int) (r2 : Int) (r3 : Int) (r4 : Int) (r5 : Int) (w : World) (h : laws_toIns.f a0_0 a0_1 a0_2 a0_3 a0_4 = some (r1, r2, r3, r4, r5)) :
  Calls Try.prog 67 #[.agg #[.int .i64 a0_0, .int .i64 a0_1, .int .i64 a0_2, .int .i64 a0_3, .int .i64 a0_4]] w fun e w' => e = .returned (.agg #[.int .i64 r1, .int .i64 r2, .int .i64 r3, .int .i64 r4, .int .i64 r5]) ∧ Below w.heap.size w w' := by
 have hu82 := Try.underlying82
 have hu37 := Try.underlying37
 have HB := Aside0.mk (Below.refl w.heap.size w)
 have H : (some (a0_0, a0_1, a0_2, a0_3, a0_4)) = some (r1, r2, r3, r4, r5) := h
 clear h
 simp only [Option.some.injEq, Prod.mk.injEq] at H
 obtain ⟨rfl, rfl, rfl, rfl, rfl⟩ := H
 go_enter Try.func67, Try.ntmps67
 go_wp2_with (first | ((with_reducible refine gate_dst (N := 1) rfl ?_); refine box_event ?hg (N := 1) ?hd (cs := #[.int .i64 a0_0, .int .i64 a0_1, .int .i64 a0_2, .int .i64 a0_3, .int .i64 a0_4]) (t := 82) ?hr ?_; (case hd => rfl); (case hg => rfl); (case hr => first | (go_simp; done) | (go_simp; rfl)); intro gb663 hg w2 hbox hb; refine swap4_ (below_step atgB_ hb) (hbox) ((by rw [hg]; exact (below_size atgB_) : w.heap.size ≤ gb663)) ((by rw [hg]; exact (below_size atgB_) : w.heap.size ≤ gb663)) ?_; clear HB; intro HB BK663 GW663 GE663; clear hb hbox hg) | ((with_reducible refine gate_dst (N := 2) rfl ?_); refine box_event ?hg (N := 2) ?hd (cs := #[.int .i64 0, .int .i64 0, .int .i64 0, .int .i64 0, .int .i64 0]) (t := 37) ?hr ?_; (case hd => rfl); (case hg => rfl); (case hr => first | (go_simp; done) | (go_simp; rfl)); intro gb664 hg w3 hbox hb; refine swap7_ (blk_below (g := gb663) (o := .cells #[.int .i64 a0_0, .int .i64 a0_1, .int .i64 a0_2, .int .i64 a0_3, .int .i64 a0_4] 82 (0, 0)) att14_0_5 hb) (below_step att14_0_9 hb) (hbox) ((by rw [hg]; exact (below_size att14_0_9) : w.heap.size ≤ gb664)) ((by rw [hg]; exact (below_size att14_0_9) : w.heap.size ≤ gb664)) ((by rw [hg]; exact Nat.ne_of_lt (blk_lt (g := gb663) (o := .cells #[.int .i64 a0_0, .int .i64 a0_1, .int .i64 a0_2, .int .i64 a0_3, .int .i64 a0_4] 82 (0, 0)) att14_0_5) : gb663 ≠ gb664)) ((by rw [hg]; exact Nat.ne_of_gt (blk_lt (g := gb663) (o := .cells #[.int .i64 a0_0, .int .i64 a0_1, .int .i64 a0_2, .int .i64 a0_3, .int .i64 a0_4] 82 (0, 0)) att14_0_5) : gb664 ≠ gb663)) ?_; clear BK663 HB; intro BK663 HB BK664 GW664 GE664 NB663_664 NB664_663; clear hb hbox hg) | ((with_reducible refine gate_dst (N := 3) rfl ?_); refine box_event ?hg (N := 3) ?hd (cs := #[.int .i64 0, .int .i64 0, .int .i64 0, .int .i64 0, .int .i64 0]) (t := 37) ?hr ?_; (case hd => rfl); (case hg => rfl); (case hr => first | (go_simp; done) | (go_simp; rfl)); intro gb665 hg w4 hbox hb; have n0_ := Aside0.mk (blk_below (g := gb663) (o := .cells #[.int .i64 a0_0, .int .i64 a0_1, .int .i64 a0_2, .int .i64 a0_3, .int .i64 a0_4] 82 (0, 0)) att14_0_5 hb); have n1_ := Aside0.mk (blk_below (g := gb664) (o := .cells #[.int .i64 0, .int .i64 0, .int .i64 0, .int .i64 0, .int .i64 0] 37 (0, 0)) att14_0_11 hb); have n2_ := Aside0.mk (below_step att14_0_6 hb); have n3_ := Aside0.mk (hbox); have n4_ := Aside0.mk ((by rw [hg]; exact (below_size att14_0_6) : w.heap.size ≤ gb665)); have n5_ := Aside0.mk ((by rw [hg]; exact (below_size att14_0_6) : w.heap.size ≤ gb665)); have n6_ := Aside0.mk ((by rw [hg]; exact Nat.ne_of_lt (blk_lt (g := gb663) (o := .cells #[.int .i64 a0_0, .int .i64 a0_1, .int .i64 a0_2, .int .i64 a0_3, .int .i64 a0_4] 82 (0, 0)) att14_0_5) : gb663 ≠ gb665)); have n7_ := Aside0.mk ((by rw [hg]; exact Nat.ne_of_gt (blk_lt (g := gb663) (o := .cells #[.int .i64 a0_0, .int .i64 a0_1, .int .i64 a0_2, .int .i64 a0_3, .int .i64 a0_4] 82 (0, 0)) att14_0_5) : gb665 ≠ gb663)); have n8_ := Aside0.mk ((by rw [hg]; exact Nat.ne_of_lt (blk_lt (g := gb664) (o := .cells #[.int .i64 0, .int .i64 0, .int .i64 0, .int .i64 0, .int .i64 0] 37 (0, 0)) att14_0_11) : gb664 ≠ gb665)); have n9_ := Aside0.mk ((by rw [hg]; exact Nat.ne_of_gt (blk_lt (g := gb664) (o := .cells #[.int .i64 0, .int .i64 0, .int .i64 0, .int .i64 0, .int .i64 0] 37 (0, 0)) att14_0_11) : gb665 ≠ gb664)); clear BK663; clear BK664; clear HB; have BK663 := n0_; have BK664 := n1_; have HB := n2_; have BK665 := n3_; have GW665 := n4_; have GE665 := n5_; have NB663_665 := n6_; have NB665_663 := n7_; have NB664_665 := n8_; have NB665_664 := n9_; clear n0_ n1_ n2_ n3_ n4_ n5_ n6_ n7_ n8_ n9_; clear hb hbox hg; have hnb5 := NB663_664.out; have hnc5 := NB664_663.out; have hnb6 := NB663_665.out; have hnc6 := NB665_663.out; obtain ⟨hcz7_0, hcz7_1, hcz7_2, hcz7_3, hcz7_4, hfz7_0, hfz7_1, hfz7_2, hfz7_3, hfz7_4⟩ := blkB5_ BK663; have hnb8 := NB665_664.out; have hnc8 := NB664_665.out; obtain ⟨hcz9_0, hcz9_1, hcz9_2, hcz9_3, hcz9_4, hfz9_0, hfz9_1, hfz9_2, hfz9_3, hfz9_4⟩ := blkB5_ BK665; obtain ⟨hcz10_0, hcz10_1, hcz10_2, hcz10_3, hcz10_4, hfz10_0, hfz10_1, hfz10_2, hfz10_3, hfz10_4⟩ := blkB5_ BK664))
 refine bodyPost_ret (results_cell_row rfl _ _ gb664 37 #[.int .i64 a0_0, .int .i64 a0_1, .int .i64 a0_2, .int .i64 a0_3, .int .i64 a0_4] (0, 0) _ rfl (by (with_reducible repeat (first | refine blk_drewN ?_ _ | refine blk_drew ?_ | refine blk_alloc ?_ _)); refine blk_put (cs := #[.int .i64 a0_0, .int .i64 a0_1, .int .i64 a0_2, .int .i64 a0_3, .int .i64 0]) ?_ 4 _ rfl; (with_reducible repeat (first | refine blk_drewN ?_ _ | refine blk_drew ?_ | refine blk_alloc ?_ _)); refine blk_put (cs := #[.int .i64 a0_0, .int .i64 a0_1, .int .i64 a0_2, .int .i64 0, .int .i64 0]) ?_ 3 _ rfl; (with_reducible repeat (first | refine blk_drewN ?_ _ | refine blk_drew ?_ | refine blk_alloc ?_ _)); refine blk_put (cs := #[.int .i64 a0_0, .int .i64 a0_1, .int .i64 0, .int .i64 0, .int .i64 0]) ?_ 2 _ rfl; (with_reducible repeat (first | refine blk_drewN ?_ _ | refine blk_drew ?_ | refine blk_alloc ?_ _)); refine blk_put (cs := #[.int .i64 a0_0, .int .i64 0, .int .i64 0, .int .i64 0, .int .i64 0]) ?_ 1 _ rfl; (with_reducible repeat (first | refine blk_drewN ?_ _ | refine blk_drew ?_ | refine blk_alloc ?_ _)); refine blk_put (cs := #[.int .i64 0, .int .i64 0, .int .i64 0, .int .i64 0, .int .i64 0]) ?_ 0 _ rfl; (with_reducible repeat (first | refine blk_drewN ?_ _ | refine blk_drew ?_ | refine blk_alloc ?_ _)); refine blk_far ?_ NB664_665.out _; (with_reducible repeat (first | refine blk_drewN ?_ _ | refine blk_drew ?_ | refine blk_alloc ?_ _)); refine blk_far ?_ NB664_665.out _; (with_reducible repeat (first | refine blk_drewN ?_ _ | refine blk_drew ?_ | refine blk_alloc ?_ _)); refine blk_far ?_ NB664_665.out _; (with_reducible repeat (first | refine blk_drewN ?_ _ | refine blk_drew ?_ | refine blk_alloc ?_ _)); refine blk_far ?_ NB664_665.out _; (with_reducible repeat (first | refine blk_drewN ?_ _ | refine blk_drew ?_ | refine blk_alloc ?_ _)); refine blk_far ?_ NB664_665.out _; (with_reducible repeat (first | refine blk_drewN ?_ _ | refine blk_drew ?_ | refine blk_alloc ?_ _)); exact BK664.out) Try.underlying37 rfl (by kernel_rfl)) rfl ?_
 exact ⟨retT_, by repeat (first | (with_reducible first | exact HB.out | apply below_alloc | apply pw_below_drewN | apply below_drew1 | refine below_set ?_ GE663.out | refine below_set ?_ GE664.out | refine below_set ?_ GE665.out) | exact HB.out)⟩

/-! ### laws_eqStep: function 137 -/
def laws_eqStep.f (a0_0 : Int) (a0_1 : Int) (a0_2 : Int) (a0_3 : Int) (a0_4 : Int) (a1_0 : Int) (a1_1 : Int) (a1_2 : Int) (a1_3 : Int) (a1_4 : Int) : Option (Bool) := if a0_0 = a1_0 then (if a0_1 = a1_1 then (if a0_2 = a1_2 then (if a0_3 = a1_3 then (if a0_4 = a1_4 then (some true) else (some false)) else (some false)) else (some false)) else (some false)) else (some false)
set_option maxHeartbeats 80000000 in
set_option maxRecDepth 100000 in
theorem laws_eqStep.calls (a0_0 : Int) (a0_1 : Int) (a0_2 : Int) (a0_3 : Int) (a0_4 : Int) (a1_0 : Int) (a1_1 : Int) (a1_2 : Int) (a1_3 : Int) (a1_4 : Int) (r : Bool) (w : World) (h : laws_eqStep.f a0_0 a0_1 a0_2 a0_3 a0_4 a1_0 a1_1 a1_2 a1_3 a1_4 = some r) :
  Calls Try.prog 137 #[.agg #[.int .i64 a0_0, .int .i64 a0_1, .int .i64 a0_2, .int .i64 a0_3, .int .i64 a0_4], .agg #[.int .i64 a1_0, .int .i64 a1_1, .int .i64 a1_2, .int .i64 a1_3, .int .i64 a1_4]] w fun e w' => e = .returned (.bool r) ∧ Below w.heap.size w w' := by
 have hu46 := Try.underlying46
 have HB := Aside0.mk (Below.refl w.heap.size w)
 have H : (if a0_0 = a1_0 then (if a0_1 = a1_1 then (if a0_2 = a1_2 then (if a0_3 = a1_3 then (if a0_4 = a1_4 then (some true) else (some false)) else (some false)) else (some false)) else (some false)) else (some false)) = some r := h
 clear h
 by_cases c3 : a0_0 = a1_0
 ·rw [if_pos c3] at H
  have c3b0 := beq_iff_eq.mpr c3
  have c3b1 := bne_eq_false_iff_eq.mpr c3
  clear c3
  by_cases c4 : a0_1 = a1_1
  ·rw [if_pos c4] at H
   have c4b0 := beq_iff_eq.mpr c4
   have c4b1 := bne_eq_false_iff_eq.mpr c4
   clear c4
   by_cases c5 : a0_2 = a1_2
   ·rw [if_pos c5] at H
    have c5b0 := beq_iff_eq.mpr c5
    have c5b1 := bne_eq_false_iff_eq.mpr c5
    clear c5
    by_cases c6 : a0_3 = a1_3
    ·rw [if_pos c6] at H
     have c6b0 := beq_iff_eq.mpr c6
     have c6b1 := bne_eq_false_iff_eq.mpr c6
     clear c6
     by_cases c7 : a0_4 = a1_4
     ·rw [if_pos c7] at H
      have c7b0 := beq_iff_eq.mpr c7
      have c7b1 := bne_eq_false_iff_eq.mpr c7
      clear c7
      obtain rfl := Option.some.inj H
      go_enter Try.func137, Try.ntmps137
      go_wp2_with (first | ((with_reducible refine gate_dst (N := 2) rfl ?_); refine box_event ?hg (N := 2) ?hd (cs := #[.int .i64 a0_0, .int .i64 a0_1, .int .i64 a0_2, .int .i64 a0_3, .int .i64 a0_4]) (t := 46) ?hr ?_; (case hd => rfl); (case hg => rfl); (case hr => first | (go_simp; done) | (go_simp; rfl)); intro gb666 hg w8 hbox hb; refine swap4_ (below_step atgB_ hb) (hbox) ((by rw [hg]; exact (below_size atgB_) : w.heap.size ≤ gb666)) ((by rw [hg]; exact (below_size atgB_) : w.heap.size ≤ gb666)) ?_; clear HB; intro HB BK666 GW666 GE666; clear hb hbox hg) | ((with_reducible refine gate_dst (N := 3) rfl ?_); refine box_event ?hg (N := 3) ?hd (cs := #[.int .i64 a1_0, .int .i64 a1_1, .int .i64 a1_2, .int .i64 a1_3, .int .i64 a1_4]) (t := 46) ?hr ?_; (case hd => rfl); (case hg => rfl); (case hr => first | (go_simp; done) | (go_simp; rfl)); intro gb667 hg w9 hbox hb; refine swap7_ (blk_below (g := gb666) (o := .cells #[.int .i64 a0_0, .int .i64 a0_1, .int .i64 a0_2, .int .i64 a0_3, .int .i64 a0_4] 46 (0, 0)) att14_0_2 hb) (below_step att14_0_1 hb) (hbox) ((by rw [hg]; exact (below_size att14_0_1) : w.heap.size ≤ gb667)) ((by rw [hg]; exact (below_size att14_0_1) : w.heap.size ≤ gb667)) ((by rw [hg]; exact Nat.ne_of_lt (blk_lt (g := gb666) (o := .cells #[.int .i64 a0_0, .int .i64 a0_1, .int .i64 a0_2, .int .i64 a0_3, .int .i64 a0_4] 46 (0, 0)) att14_0_2) : gb666 ≠ gb667)) ((by rw [hg]; exact Nat.ne_of_gt (blk_lt (g := gb666) (o := .cells #[.int .i64 a0_0, .int .i64 a0_1, .int .i64 a0_2, .int .i64 a0_3, .int .i64 a0_4] 46 (0, 0)) att14_0_2) : gb667 ≠ gb666)) ?_; clear BK666 HB; intro BK666 HB BK667 GW667 GE667 NB666_667 NB667_666; clear hb hbox hg; have hnb10 := NB666_667.out; have hnc10 := NB667_666.out; obtain ⟨hcz11_0, hcz11_1, hcz11_2, hcz11_3, hcz11_4, hfz11_0, hfz11_1, hfz11_2, hfz11_3, hfz11_4⟩ := blkB5_ BK666; obtain ⟨hcz12_0, hcz12_1, hcz12_2, hcz12_3, hcz12_4, hfz12_0, hfz12_1, hfz12_2, hfz12_3, hfz12_4⟩ := blkB5_ BK667))
      go_ret
      exact ⟨retT_, att14_0_4⟩
     ·rw [if_neg c7] at H
      have c7b0 := beq_eq_false_iff_ne.mpr c7
      have c7b1 := bne_iff_ne.mpr c7
      obtain rfl := Option.some.inj H
      go_enter Try.func137, Try.ntmps137
      go_wp2_with (first | ((with_reducible refine gate_dst (N := 2) rfl ?_); refine box_event ?hg (N := 2) ?hd (cs := #[.int .i64 a0_0, .int .i64 a0_1, .int .i64 a0_2, .int .i64 a0_3, .int .i64 a0_4]) (t := 46) ?hr ?_; (case hd => rfl); (case hg => rfl); (case hr => first | (go_simp; done) | (go_simp; rfl)); intro gb666 hg w13 hbox hb; refine swap4_ (below_step atgB_ hb) (hbox) ((by rw [hg]; exact (below_size atgB_) : w.heap.size ≤ gb666)) ((by rw [hg]; exact (below_size atgB_) : w.heap.size ≤ gb666)) ?_; clear HB; intro HB BK666 GW666 GE666; clear hb hbox hg) | ((with_reducible refine gate_dst (N := 3) rfl ?_); refine box_event ?hg (N := 3) ?hd (cs := #[.int .i64 a1_0, .int .i64 a1_1, .int .i64 a1_2, .int .i64 a1_3, .int .i64 a1_4]) (t := 46) ?hr ?_; (case hd => rfl); (case hg => rfl); (case hr => first | (go_simp; done) | (go_simp; rfl)); intro gb667 hg w14 hbox hb; refine swap7_ (blk_below (g := gb666) (o := .cells #[.int .i64 a0_0, .int .i64 a0_1, .int .i64 a0_2, .int .i64 a0_3, .int .i64 a0_4] 46 (0, 0)) att14_0_2 hb) (below_step att14_0_1 hb) (hbox) ((by rw [hg]; exact (below_size att14_0_1) : w.heap.size ≤ gb667)) ((by rw [hg]; exact (below_size att14_0_1) : w.heap.size ≤ gb667)) ((by rw [hg]; exact Nat.ne_of_lt (blk_lt (g := gb666) (o := .cells #[.int .i64 a0_0, .int .i64 a0_1, .int .i64 a0_2, .int .i64 a0_3, .int .i64 a0_4] 46 (0, 0)) att14_0_2) : gb666 ≠ gb667)) ((by rw [hg]; exact Nat.ne_of_gt (blk_lt (g := gb666) (o := .cells #[.int .i64 a0_0, .int .i64 a0_1, .int .i64 a0_2, .int .i64 a0_3, .int .i64 a0_4] 46 (0, 0)) att14_0_2) : gb667 ≠ gb666)) ?_; clear BK666 HB; intro BK666 HB BK667 GW667 GE667 NB666_667 NB667_666; clear hb hbox hg; have hnb15 := NB666_667.out; have hnc15 := NB667_666.out; obtain ⟨hcz16_0, hcz16_1, hcz16_2, hcz16_3, hcz16_4, hfz16_0, hfz16_1, hfz16_2, hfz16_3, hfz16_4⟩ := blkB5_ BK666; obtain ⟨hcz17_0, hcz17_1, hcz17_2, hcz17_3, hcz17_4, hfz17_0, hfz17_1, hfz17_2, hfz17_3, hfz17_4⟩ := blkB5_ BK667))
      go_ret
      exact ⟨retT_, att14_0_4⟩
    ·rw [if_neg c6] at H
     have c6b0 := beq_eq_false_iff_ne.mpr c6
     have c6b1 := bne_iff_ne.mpr c6
     obtain rfl := Option.some.inj H
     go_enter Try.func137, Try.ntmps137
     go_wp2_with (first | ((with_reducible refine gate_dst (N := 2) rfl ?_); refine box_event ?hg (N := 2) ?hd (cs := #[.int .i64 a0_0, .int .i64 a0_1, .int .i64 a0_2, .int .i64 a0_3, .int .i64 a0_4]) (t := 46) ?hr ?_; (case hd => rfl); (case hg => rfl); (case hr => first | (go_simp; done) | (go_simp; rfl)); intro gb666 hg w18 hbox hb; refine swap4_ (below_step atgB_ hb) (hbox) ((by rw [hg]; exact (below_size atgB_) : w.heap.size ≤ gb666)) ((by rw [hg]; exact (below_size atgB_) : w.heap.size ≤ gb666)) ?_; clear HB; intro HB BK666 GW666 GE666; clear hb hbox hg) | ((with_reducible refine gate_dst (N := 3) rfl ?_); refine box_event ?hg (N := 3) ?hd (cs := #[.int .i64 a1_0, .int .i64 a1_1, .int .i64 a1_2, .int .i64 a1_3, .int .i64 a1_4]) (t := 46) ?hr ?_; (case hd => rfl); (case hg => rfl); (case hr => first | (go_simp; done) | (go_simp; rfl)); intro gb667 hg w19 hbox hb; refine swap7_ (blk_below (g := gb666) (o := .cells #[.int .i64 a0_0, .int .i64 a0_1, .int .i64 a0_2, .int .i64 a0_3, .int .i64 a0_4] 46 (0, 0)) att14_0_2 hb) (below_step att14_0_1 hb) (hbox) ((by rw [hg]; exact (below_size att14_0_1) : w.heap.size ≤ gb667)) ((by rw [hg]; exact (below_size att14_0_1) : w.heap.size ≤ gb667)) ((by rw [hg]; exact Nat.ne_of_lt (blk_lt (g := gb666) (o := .cells #[.int .i64 a0_0, .int .i64 a0_1, .int .i64 a0_2, .int .i64 a0_3, .int .i64 a0_4] 46 (0, 0)) att14_0_2) : gb666 ≠ gb667)) ((by rw [hg]; exact Nat.ne_of_gt (blk_lt (g := gb666) (o := .cells #[.int .i64 a0_0, .int .i64 a0_1, .int .i64 a0_2, .int .i64 a0_3, .int .i64 a0_4] 46 (0, 0)) att14_0_2) : gb667 ≠ gb666)) ?_; clear BK666 HB; intro BK666 HB BK667 GW667 GE667 NB666_667 NB667_666; clear hb hbox hg; have hnb20 := NB666_667.out; have hnc20 := NB667_666.out; obtain ⟨hcz21_0, hcz21_1, hcz21_2, hcz21_3, hcz21_4, hfz21_0, hfz21_1, hfz21_2, hfz21_3, hfz21_4⟩ := blkB5_ BK666; obtain ⟨hcz22_0, hcz22_1, hcz22_2, hcz22_3, hcz22_4, hfz22_0, hfz22_1, hfz22_2, hfz22_3, hfz22_4⟩ := blkB5_ BK667))
     go_ret
     exact ⟨retT_, att14_0_4⟩
   ·rw [if_neg c5] at H
    have c5b0 := beq_eq_false_iff_ne.mpr c5
    have c5b1 := bne_iff_ne.mpr c5
    obtain rfl := Option.some.inj H
    go_enter Try.func137, Try.ntmps137
    go_wp2_with (first | ((with_reducible refine gate_dst (N := 2) rfl ?_); refine box_event ?hg (N := 2) ?hd (cs := #[.int .i64 a0_0, .int .i64 a0_1, .int .i64 a0_2, .int .i64 a0_3, .int .i64 a0_4]) (t := 46) ?hr ?_; (case hd => rfl); (case hg => rfl); (case hr => first | (go_simp; done) | (go_simp; rfl)); intro gb666 hg w23 hbox hb; refine swap4_ (below_step atgB_ hb) (hbox) ((by rw [hg]; exact (below_size atgB_) : w.heap.size ≤ gb666)) ((by rw [hg]; exact (below_size atgB_) : w.heap.size ≤ gb666)) ?_; clear HB; intro HB BK666 GW666 GE666; clear hb hbox hg) | ((with_reducible refine gate_dst (N := 3) rfl ?_); refine box_event ?hg (N := 3) ?hd (cs := #[.int .i64 a1_0, .int .i64 a1_1, .int .i64 a1_2, .int .i64 a1_3, .int .i64 a1_4]) (t := 46) ?hr ?_; (case hd => rfl); (case hg => rfl); (case hr => first | (go_simp; done) | (go_simp; rfl)); intro gb667 hg w24 hbox hb; refine swap7_ (blk_below (g := gb666) (o := .cells #[.int .i64 a0_0, .int .i64 a0_1, .int .i64 a0_2, .int .i64 a0_3, .int .i64 a0_4] 46 (0, 0)) att14_0_2 hb) (below_step att14_0_1 hb) (hbox) ((by rw [hg]; exact (below_size att14_0_1) : w.heap.size ≤ gb667)) ((by rw [hg]; exact (below_size att14_0_1) : w.heap.size ≤ gb667)) ((by rw [hg]; exact Nat.ne_of_lt (blk_lt (g := gb666) (o := .cells #[.int .i64 a0_0, .int .i64 a0_1, .int .i64 a0_2, .int .i64 a0_3, .int .i64 a0_4] 46 (0, 0)) att14_0_2) : gb666 ≠ gb667)) ((by rw [hg]; exact Nat.ne_of_gt (blk_lt (g := gb666) (o := .cells #[.int .i64 a0_0, .int .i64 a0_1, .int .i64 a0_2, .int .i64 a0_3, .int .i64 a0_4] 46 (0, 0)) att14_0_2) : gb667 ≠ gb666)) ?_; clear BK666 HB; intro BK666 HB BK667 GW667 GE667 NB666_667 NB667_666; clear hb hbox hg; have hnb25 := NB666_667.out; have hnc25 := NB667_666.out; obtain ⟨hcz26_0, hcz26_1, hcz26_2, hcz26_3, hcz26_4, hfz26_0, hfz26_1, hfz26_2, hfz26_3, hfz26_4⟩ := blkB5_ BK666; obtain ⟨hcz27_0, hcz27_1, hcz27_2, hcz27_3, hcz27_4, hfz27_0, hfz27_1, hfz27_2, hfz27_3, hfz27_4⟩ := blkB5_ BK667))
    go_ret
    exact ⟨retT_, att14_0_4⟩
  ·rw [if_neg c4] at H
   have c4b0 := beq_eq_false_iff_ne.mpr c4
   have c4b1 := bne_iff_ne.mpr c4
   obtain rfl := Option.some.inj H
   go_enter Try.func137, Try.ntmps137
   go_wp2_with (first | ((with_reducible refine gate_dst (N := 2) rfl ?_); refine box_event ?hg (N := 2) ?hd (cs := #[.int .i64 a0_0, .int .i64 a0_1, .int .i64 a0_2, .int .i64 a0_3, .int .i64 a0_4]) (t := 46) ?hr ?_; (case hd => rfl); (case hg => rfl); (case hr => first | (go_simp; done) | (go_simp; rfl)); intro gb666 hg w28 hbox hb; refine swap4_ (below_step atgB_ hb) (hbox) ((by rw [hg]; exact (below_size atgB_) : w.heap.size ≤ gb666)) ((by rw [hg]; exact (below_size atgB_) : w.heap.size ≤ gb666)) ?_; clear HB; intro HB BK666 GW666 GE666; clear hb hbox hg) | ((with_reducible refine gate_dst (N := 3) rfl ?_); refine box_event ?hg (N := 3) ?hd (cs := #[.int .i64 a1_0, .int .i64 a1_1, .int .i64 a1_2, .int .i64 a1_3, .int .i64 a1_4]) (t := 46) ?hr ?_; (case hd => rfl); (case hg => rfl); (case hr => first | (go_simp; done) | (go_simp; rfl)); intro gb667 hg w29 hbox hb; refine swap7_ (blk_below (g := gb666) (o := .cells #[.int .i64 a0_0, .int .i64 a0_1, .int .i64 a0_2, .int .i64 a0_3, .int .i64 a0_4] 46 (0, 0)) att14_0_2 hb) (below_step att14_0_1 hb) (hbox) ((by rw [hg]; exact (below_size att14_0_1) : w.heap.size ≤ gb667)) ((by rw [hg]; exact (below_size att14_0_1) : w.heap.size ≤ gb667)) ((by rw [hg]; exact Nat.ne_of_lt (blk_lt (g := gb666) (o := .cells #[.int .i64 a0_0, .int .i64 a0_1, .int .i64 a0_2, .int .i64 a0_3, .int .i64 a0_4] 46 (0, 0)) att14_0_2) : gb666 ≠ gb667)) ((by rw [hg]; exact Nat.ne_of_gt (blk_lt (g := gb666) (o := .cells #[.int .i64 a0_0, .int .i64 a0_1, .int .i64 a0_2, .int .i64 a0_3, .int .i64 a0_4] 46 (0, 0)) att14_0_2) : gb667 ≠ gb666)) ?_; clear BK666 HB; intro BK666 HB BK667 GW667 GE667 NB666_667 NB667_666; clear hb hbox hg; have hnb30 := NB666_667.out; have hnc30 := NB667_666.out; obtain ⟨hcz31_0, hcz31_1, hcz31_2, hcz31_3, hcz31_4, hfz31_0, hfz31_1, hfz31_2, hfz31_3, hfz31_4⟩ := blkB5_ BK666; obtain ⟨hcz32_0, hcz32_1, hcz32_2, hcz32_3, hcz32_4, hfz32_0, hfz32_1, hfz32_2, hfz32_3, hfz32_4⟩ := blkB5_ BK667))
   go_ret
   exact ⟨retT_, att14_0_4⟩
 ·rw [if_neg c3] at H
  have c3b0 := beq_eq_false_iff_ne.mpr c3
  have c3b1 := bne_iff_ne.mpr c3
  obtain rfl := Option.some.inj H
  go_enter Try.func137, Try.ntmps137
  go_wp2_with (first | ((with_reducible refine gate_dst (N := 2) rfl ?_); refine box_event ?hg (N := 2) ?hd (cs := #[.int .i64 a0_0, .int .i64 a0_1, .int .i64 a0_2, .int .i64 a0_3, .int .i64 a0_4]) (t := 46) ?hr ?_; (case hd => rfl); (case hg => rfl); (case hr => first | (go_simp; done) | (go_simp; rfl)); intro gb666 hg w33 hbox hb; refine swap4_ (below_step atgB_ hb) (hbox) ((by rw [hg]; exact (below_size atgB_) : w.heap.size ≤ gb666)) ((by rw [hg]; exact (below_size atgB_) : w.heap.size ≤ gb666)) ?_; clear HB; intro HB BK666 GW666 GE666; clear hb hbox hg) | ((with_reducible refine gate_dst (N := 3) rfl ?_); refine box_event ?hg (N := 3) ?hd (cs := #[.int .i64 a1_0, .int .i64 a1_1, .int .i64 a1_2, .int .i64 a1_3, .int .i64 a1_4]) (t := 46) ?hr ?_; (case hd => rfl); (case hg => rfl); (case hr => first | (go_simp; done) | (go_simp; rfl)); intro gb667 hg w34 hbox hb; refine swap7_ (blk_below (g := gb666) (o := .cells #[.int .i64 a0_0, .int .i64 a0_1, .int .i64 a0_2, .int .i64 a0_3, .int .i64 a0_4] 46 (0, 0)) att14_0_2 hb) (below_step att14_0_1 hb) (hbox) ((by rw [hg]; exact (below_size att14_0_1) : w.heap.size ≤ gb667)) ((by rw [hg]; exact (below_size att14_0_1) : w.heap.size ≤ gb667)) ((by rw [hg]; exact Nat.ne_of_lt (blk_lt (g := gb666) (o := .cells #[.int .i64 a0_0, .int .i64 a0_1, .int .i64 a0_2, .int .i64 a0_3, .int .i64 a0_4] 46 (0, 0)) att14_0_2) : gb666 ≠ gb667)) ((by rw [hg]; exact Nat.ne_of_gt (blk_lt (g := gb666) (o := .cells #[.int .i64 a0_0, .int .i64 a0_1, .int .i64 a0_2, .int .i64 a0_3, .int .i64 a0_4] 46 (0, 0)) att14_0_2) : gb667 ≠ gb666)) ?_; clear BK666 HB; intro BK666 HB BK667 GW667 GE667 NB666_667 NB667_666; clear hb hbox hg; have hnb35 := NB666_667.out; have hnc35 := NB667_666.out; obtain ⟨hcz36_0, hcz36_1, hcz36_2, hcz36_3, hcz36_4, hfz36_0, hfz36_1, hfz36_2, hfz36_3, hfz36_4⟩ := blkB5_ BK666; obtain ⟨hcz37_0, hcz37_1, hcz37_2, hcz37_3, hcz37_4, hfz37_0, hfz37_1, hfz37_2, hfz37_3, hfz37_4⟩ := blkB5_ BK667))
  go_ret
  exact ⟨retT_, att14_0_4⟩

/-! ### laws_eqStepS: function 68 -/
def laws_eqStepS.l0 : Nat → List (S46) → List (S46) → Int → Option (Bool)
 | 0, _, _, _ => none
 | k + 1, x0, x1, x5 => if x5 < (x0.length : Int) then (if 0 ≤ x5 then (if x5 < (x1.length : Int) then ((laws_eqStep.f ((rd_T46 x0 x5).f0) ((rd_T46 x0 x5).f1) ((rd_T46 x0 x5).f2) ((rd_T46 x0 x5).f3) ((rd_T46 x0 x5).f4) ((rd_T46 x1 x5).f0) ((rd_T46 x1 x5).f1) ((rd_T46 x1 x5).f2) ((rd_T46 x1 x5).f3) ((rd_T46 x1 x5).f4)).bind fun t670 => (if t670 = true then (laws_eqStepS.l0 k x0 x1 (wrap64 (x5 + 1))) else (some false))) else (none)) else (none)) else (some true)
def laws_eqStepS.f (k : Nat) (l0 : List (S46)) (l1 : List (S46)) : Option (Bool) := if (l0.length : Int) = (l1.length : Int) then (laws_eqStepS.l0 k l0 l1 0) else (some false)
theorem laws_eqStepS.mono_l : ∀ k, (∀ y0 y1 y2, LeO (laws_eqStepS.l0 k y0 y1 y2) (laws_eqStepS.l0 (k + 1) y0 y1 y2))
 | 0 => fun _ _ _ r h => by simp [laws_eqStepS.l0] at h
 | k + 1 => by
  have ih0 := laws_eqStepS.mono_l k
  ·intro y0 y1 y2
   unfold laws_eqStepS.l0
   repeat' (with_reducible first | exact ih0 .. | exact LeO.refl _ | exact LeO.none _ | refine LeO.ite ?_ ?_ | refine LeO.bind ?_ (fun _ => ?_))
theorem laws_eqStepS.mono : ∀ a0 a1 k, LeO (laws_eqStepS.f k a0 a1) (laws_eqStepS.f (k + 1) a0 a1) := by
 intro a0 a1 k
 have ih0 := laws_eqStepS.mono_l k
 unfold laws_eqStepS.f
 repeat' (with_reducible first | exact ih0 .. | exact LeO.refl _ | exact LeO.none _ | refine LeO.ite ?_ ?_ | refine LeO.bind ?_ (fun _ => ?_))
def laws_eqStepS.T6 : Bool × List (List Nat × List Nat) := (true, [([], []), ([], []), ([0, 1], [0, 1]), ([2], [2]), ([], []), ([], []), ([4, 5], [4, 5]), ([6], [6]), ([3, 7], [3, 7]), ([8], [8])])
def laws_eqStepS.B6 : List Nat := [0, 0, 3, 7, 0, 0, 48, 112, 255, 511]
theorem laws_eqStepS.tab6 : rtab .any (opsOf Try.f68 6) = laws_eqStepS.T6 := by kernel_rfl
theorem laws_eqStepS.bits6 : waitsOk laws_eqStepS.T6.2 laws_eqStepS.B6 = true := by kernel_rfl
set_option maxHeartbeats 80000000 in
set_option maxRecDepth 100000 in
theorem laws_eqStepS.calls (k : Nat) (A0 : Option Addr) (c0 : Nat) (l0 : List (S46)) (A1 : Option Addr) (c1 : Nat) (l1 : List (S46)) (r : Bool) (w : World) (hr0 : Kd.C k46 w A0 l0.length l0) (hc0 : l0.length ≤ c0) (hr1 : Kd.C k46 w A1 l1.length l1) (hc1 : l1.length ≤ c1) (h : laws_eqStepS.f k l0 l1 = some r) :
  Calls Try.prog 68 #[.slice A0 l0.length c0, .slice A1 l1.length c1] w fun e w' => e = .returned (.bool r) ∧ Below w.heap.size w w' := by
 have hu46 := Try.underlying46
 have HR0 := Aside0.mk hr0
 have HC0 := Aside0.mk hc0
 clear hr0 hc0
 have HR1 := Aside0.mk hr1
 have HC1 := Aside0.mk hc1
 clear hr1 hc1
 have HB := Aside0.mk (Below.refl w.heap.size w)
 have H : (if (l0.length : Int) = (l1.length : Int) then (laws_eqStepS.l0 k l0 l1 0) else (some false)) = some r := h
 clear h
 by_cases c3 : (l0.length : Int) = (l1.length : Int)
 ·rw [if_pos c3] at H
  have c3b0 := beq_iff_eq.mpr c3
  have c3b1 := bne_eq_false_iff_eq.mpr c3
  have c3b2 : (l0.length == l1.length) = true := by first | simpa using c3 | (simp at c3 ⊢; omega)
  clear c3
  have H' := Aside0.mk H
  clear H
  go_enter Try.func68, Try.ntmps68
  go_wp2
  go_loopg [5] k (fun kq v5 w' => ∃ (x5_1 : Int), v5 = .int .i64 x5_1 ∧ Aside0 (laws_eqStepS.l0 kq l0 l1 x5_1 = some r) ∧ Aside0 (kq ≤ k) ∧ Aside0 (Below w.heap.size w w'))
  case atStart => exact ⟨(0), atgR_, H', ⟨Nat.le_refl _⟩, ⟨atgB_⟩⟩
  case round =>
   clear H'
   try clear c1
   try clear p2
   try clear c3
   try clear c3b0
   try clear c3b1
   try clear c3b2
   obtain ⟨x5_1, rfl, HA, HK1, HB⟩ := hrel
   cases gk with
   | zero => exact absurd HA.out (by simp [laws_eqStepS.l0])
   | succ k1 =>
    have H := HA.out
    clear HA
    simp only [laws_eqStepS.l0] at H
    by_cases c4 : x5_1 < (l0.length : Int)
    ·rw [if_pos c4] at H
     have c4b0 := decide_eq_true c4
     clear c4
     by_cases c5 : 0 ≤ x5_1
     ·rw [if_pos c5] at H
      have c5b0 := decide_eq_true c5
      clear c5
      by_cases c6 : x5_1 < (l1.length : Int)
      ·rw [if_pos c6] at H
       have c6b0 := decide_eq_true c6
       clear c6
       replace H := Option.bind_eq_some_iff.mp H
       obtain ⟨t670, A70, H⟩ := H
       (try dsimp only at H)
       have A7 := Aside0.mk A70
       clear A70
       by_cases c8 : t670 = true
       ·subst c8
        rw [if_pos rfl] at H
        have H' := Aside0.mk H
        clear H
        try go_wp2
        have n0_ := Aside0.mk (below_drew1 HB.out)
        clear HB
        have HB := n0_
        clear n0_
        have p668 : 0 ≤ (x5_1 : Int) := of_decide_eq_true atgA_
        have q668 : x5_1 < (l0.length : Int) := of_decide_eq_true atgA_
        obtain ⟨ad668, e668, hx668_0, hx668_1, hx668_2, hx668_3, hx668_4⟩ := at_T46 HR0.out x5_1 p668 q668
        have hw668_4 := hx668_4
        have hw668_3 := hx668_3
        have hw668_2 := hx668_2
        have hw668_1 := hx668_1
        have hw668_0 := hx668_0
        cases e668
        replace hx668_0 := blc_ HB hx668_0
        replace hx668_1 := blc_ HB hx668_1
        replace hx668_2 := blc_ HB hx668_2
        replace hx668_3 := blc_ HB hx668_3
        replace hx668_4 := blc_ HB hx668_4
        replace p668 := eq_true p668
        replace q668 := eq_true q668
        have p669 : 0 ≤ (x5_1 : Int) := of_decide_eq_true atgA_
        have q669 : x5_1 < (l1.length : Int) := of_decide_eq_true atgA_
        obtain ⟨ad669, e669, hx669_0, hx669_1, hx669_2, hx669_3, hx669_4⟩ := at_T46 HR1.out x5_1 p669 q669
        have hw669_4 := hx669_4
        have hw669_3 := hx669_3
        have hw669_2 := hx669_2
        have hw669_1 := hx669_1
        have hw669_0 := hx669_0
        cases e669
        replace hx669_0 := blc_ HB hx669_0
        replace hx669_1 := blc_ HB hx669_1
        replace hx669_2 := blc_ HB hx669_2
        replace hx669_3 := blc_ HB hx669_3
        replace hx669_4 := blc_ HB hx669_4
        replace p669 := eq_true p669
        replace q669 := eq_true q669
        refine start_ (n := 10) (S := fun w' => w'.cell? (ad668.add ((x5_1).toNat * 5)) = some (.int .i64 ((rd_T46 l0 x5_1).f0)) ∧ w'.cell? ⟨(ad668.add ((x5_1).toNat * 5)).block, (ad668.add ((x5_1).toNat * 5)).off + 1, none⟩ = some (.int .i64 ((rd_T46 l0 x5_1).f1)) ∧ w'.cell? ⟨(ad668.add ((x5_1).toNat * 5)).block, (ad668.add ((x5_1).toNat * 5)).off + 2, none⟩ = some (.int .i64 ((rd_T46 l0 x5_1).f2)) ∧ w'.cell? ⟨(ad668.add ((x5_1).toNat * 5)).block, (ad668.add ((x5_1).toNat * 5)).off + 3, none⟩ = some (.int .i64 ((rd_T46 l0 x5_1).f3)) ∧ w'.cell? ⟨(ad668.add ((x5_1).toNat * 5)).block, (ad668.add ((x5_1).toNat * 5)).off + 4, none⟩ = some (.int .i64 ((rd_T46 l0 x5_1).f4)) ∧ w'.cell? (ad669.add ((x5_1).toNat * 5)) = some (.int .i64 ((rd_T46 l1 x5_1).f0)) ∧ w'.cell? ⟨(ad669.add ((x5_1).toNat * 5)).block, (ad669.add ((x5_1).toNat * 5)).off + 1, none⟩ = some (.int .i64 ((rd_T46 l1 x5_1).f1)) ∧ w'.cell? ⟨(ad669.add ((x5_1).toNat * 5)).block, (ad669.add ((x5_1).toNat * 5)).off + 2, none⟩ = some (.int .i64 ((rd_T46 l1 x5_1).f2)) ∧ w'.cell? ⟨(ad669.add ((x5_1).toNat * 5)).block, (ad669.add ((x5_1).toNat * 5)).off + 3, none⟩ = some (.int .i64 ((rd_T46 l1 x5_1).f3)) ∧ w'.cell? ⟨(ad669.add ((x5_1).toNat * 5)).block, (ad669.add ((x5_1).toNat * 5)).off + 4, none⟩ = some (.int .i64 ((rd_T46 l1 x5_1).f4))) (ds := []) (tf_ 0 10) (by kernel_rfl) rfl rfl ⟨((HB.out.cell (World.block_lt_of_cell? w _ hw668_0)).trans hw668_0), ((HB.out.cell (World.block_lt_of_cell? w _ hw668_1)).trans hw668_1), ((HB.out.cell (World.block_lt_of_cell? w _ hw668_2)).trans hw668_2), ((HB.out.cell (World.block_lt_of_cell? w _ hw668_3)).trans hw668_3), ((HB.out.cell (World.block_lt_of_cell? w _ hw668_4)).trans hw668_4), ((HB.out.cell (World.block_lt_of_cell? w _ hw669_0)).trans hw669_0), ((HB.out.cell (World.block_lt_of_cell? w _ hw669_1)).trans hw669_1), ((HB.out.cell (World.block_lt_of_cell? w _ hw669_2)).trans hw669_2), ((HB.out.cell (World.block_lt_of_cell? w _ hw669_3)).trans hw669_3), ((HB.out.cell (World.block_lt_of_cell? w _ hw669_4)).trans hw669_4)⟩ (fun hHeld => ?_); refine with_tabW laws_eqStepS.tab6 laws_eqStepS.bits6 (fun HT_ HW_ => ?_)
        generalize wr.drew = w9 at HB hx668_0 hx668_1 hx668_2 hx668_3 hx668_4 hx669_0 hx669_1 hx669_2 hx669_3 hx669_4 hHeld ⊢
        refine pureQ_ (i := 0) (N := some 17) (tf_ 1 9) (h := ?_)
        refine pureQ_ (i := 1) (N := some 18) (tf_ 2 8) (h := ?_)
        refine pureQ_ (i := 2) (N := some 19) (tf_ 3 7) (h := ?_)
        refine pureQ_ (i := 4) (N := some 21) #[true, true, true, false, true, false, false, false, false, false] (h := ?_)
        refine pureQ_ (i := 5) (N := some 22) #[true, true, true, false, true, true, false, false, false, false] (h := ?_)
        refine pureQ_ (i := 6) (N := some 23) #[true, true, true, false, true, true, true, false, false, false] (h := ?_)
        refine takeQ_ (i := 3) (N := some 20) (tf_ 7 3) hHeld (hy := Or.inl ⟨by rfl, att14_0_10⟩) (h := ?_)
        refine takeQ_ (i := 7) (N := some 24) (tf_ 8 2) hHeld (hy := Or.inl ⟨by rfl, att14_0_10⟩) (h := ?_)
        refine one_ (i := 8) (N := some 25) (tf_ 9 1) rfl rfl (one_of HT_.out (by kernel_rfl)) (by decide) (fun K hK => ?_)
        refine goes_ Try.func137 (by kernel_rfl) rfl #[.agg #[.int .i64 ((rd_T46 l0 x5_1).f0), .int .i64 ((rd_T46 l0 x5_1).f1), .int .i64 ((rd_T46 l0 x5_1).f2), .int .i64 ((rd_T46 l0 x5_1).f3), .int .i64 ((rd_T46 l0 x5_1).f4)], .agg #[.int .i64 ((rd_T46 l1 x5_1).f0), .int .i64 ((rd_T46 l1 x5_1).f1), .int .i64 ((rd_T46 l1 x5_1).f2), .int .i64 ((rd_T46 l1 x5_1).f3), .int .i64 ((rd_T46 l1 x5_1).f4)]] (by rfl) rfl rfl atgM_ ?_
        with_reducible refine (laws_eqStep.calls ((rd_T46 l0 x5_1).f0) ((rd_T46 l0 x5_1).f1) ((rd_T46 l0 x5_1).f2) ((rd_T46 l0 x5_1).f3) ((rd_T46 l0 x5_1).f4) ((rd_T46 l1 x5_1).f0) ((rd_T46 l1 x5_1).f1) ((rd_T46 l1 x5_1).f2) ((rd_T46 l1 x5_1).f3) ((rd_T46 l1 x5_1).f4) true _ A7.out).mono ?_
        rintro e w10 ⟨rfl, hb⟩
        refine ⟨_, rfl, ?_⟩
        have n0_ := Aside0.mk (below_step atgB_ hb)
        clear HB
        have HB := n0_
        clear n0_
        (try clear hb)
        (try clear hb2)
        (try clear hk)
        (try clear hi)
        refine hK.out _ _ ⟨((HB.out.cell (World.block_lt_of_cell? w _ hw668_0)).trans hw668_0), ((HB.out.cell (World.block_lt_of_cell? w _ hw668_1)).trans hw668_1), ((HB.out.cell (World.block_lt_of_cell? w _ hw668_2)).trans hw668_2), ((HB.out.cell (World.block_lt_of_cell? w _ hw668_3)).trans hw668_3), ((HB.out.cell (World.block_lt_of_cell? w _ hw668_4)).trans hw668_4), ((HB.out.cell (World.block_lt_of_cell? w _ hw669_0)).trans hw669_0), ((HB.out.cell (World.block_lt_of_cell? w _ hw669_1)).trans hw669_1), ((HB.out.cell (World.block_lt_of_cell? w _ hw669_2)).trans hw669_2), ((HB.out.cell (World.block_lt_of_cell? w _ hw669_3)).trans hw669_3), ((HB.out.cell (World.block_lt_of_cell? w _ hw669_4)).trans hw669_4)⟩ (fun hHeld => ?_)
        clear hK K
        refine normS_ (N := some 25) (h := ?_)
        refine pureQ_ (i := 9) (N := some 26) (tf_ 10 0) (h := ?_)
        refine done_ (done_of HT_.out (by kernel_rfl)) ?_
        try go_wp2
        go_roundg k1
        case measure => have := HK1.out; omega
        case rel => exact ⟨(wrap64 (x5_1 + 1)), atgR_, H', ⟨by have := HK1.out; omega⟩, ⟨atgB_⟩⟩
       ·replace c8 := Bool.eq_false_iff.mpr c8
        subst c8
        rw [if_neg (show ¬ (false = true) by decide)] at H
        obtain rfl := Option.some.inj H
        try go_wp2
        have n0_ := Aside0.mk (below_drew1 HB.out)
        clear HB
        have HB := n0_
        clear n0_
        have p668 : 0 ≤ (x5_1 : Int) := of_decide_eq_true atgA_
        have q668 : x5_1 < (l0.length : Int) := of_decide_eq_true atgA_
        obtain ⟨ad668, e668, hx668_0, hx668_1, hx668_2, hx668_3, hx668_4⟩ := at_T46 HR0.out x5_1 p668 q668
        have hw668_4 := hx668_4
        have hw668_3 := hx668_3
        have hw668_2 := hx668_2
        have hw668_1 := hx668_1
        have hw668_0 := hx668_0
        cases e668
        replace hx668_0 := blc_ HB hx668_0
        replace hx668_1 := blc_ HB hx668_1
        replace hx668_2 := blc_ HB hx668_2
        replace hx668_3 := blc_ HB hx668_3
        replace hx668_4 := blc_ HB hx668_4
        replace p668 := eq_true p668
        replace q668 := eq_true q668
        have p669 : 0 ≤ (x5_1 : Int) := of_decide_eq_true atgA_
        have q669 : x5_1 < (l1.length : Int) := of_decide_eq_true atgA_
        obtain ⟨ad669, e669, hx669_0, hx669_1, hx669_2, hx669_3, hx669_4⟩ := at_T46 HR1.out x5_1 p669 q669
        have hw669_4 := hx669_4
        have hw669_3 := hx669_3
        have hw669_2 := hx669_2
        have hw669_1 := hx669_1
        have hw669_0 := hx669_0
        cases e669
        replace hx669_0 := blc_ HB hx669_0
        replace hx669_1 := blc_ HB hx669_1
        replace hx669_2 := blc_ HB hx669_2
        replace hx669_3 := blc_ HB hx669_3
        replace hx669_4 := blc_ HB hx669_4
        replace p669 := eq_true p669
        replace q669 := eq_true q669
        refine start_ (n := 10) (S := fun w' => w'.cell? (ad668.add ((x5_1).toNat * 5)) = some (.int .i64 ((rd_T46 l0 x5_1).f0)) ∧ w'.cell? ⟨(ad668.add ((x5_1).toNat * 5)).block, (ad668.add ((x5_1).toNat * 5)).off + 1, none⟩ = some (.int .i64 ((rd_T46 l0 x5_1).f1)) ∧ w'.cell? ⟨(ad668.add ((x5_1).toNat * 5)).block, (ad668.add ((x5_1).toNat * 5)).off + 2, none⟩ = some (.int .i64 ((rd_T46 l0 x5_1).f2)) ∧ w'.cell? ⟨(ad668.add ((x5_1).toNat * 5)).block, (ad668.add ((x5_1).toNat * 5)).off + 3, none⟩ = some (.int .i64 ((rd_T46 l0 x5_1).f3)) ∧ w'.cell? ⟨(ad668.add ((x5_1).toNat * 5)).block, (ad668.add ((x5_1).toNat * 5)).off + 4, none⟩ = some (.int .i64 ((rd_T46 l0 x5_1).f4)) ∧ w'.cell? (ad669.add ((x5_1).toNat * 5)) = some (.int .i64 ((rd_T46 l1 x5_1).f0)) ∧ w'.cell? ⟨(ad669.add ((x5_1).toNat * 5)).block, (ad669.add ((x5_1).toNat * 5)).off + 1, none⟩ = some (.int .i64 ((rd_T46 l1 x5_1).f1)) ∧ w'.cell? ⟨(ad669.add ((x5_1).toNat * 5)).block, (ad669.add ((x5_1).toNat * 5)).off + 2, none⟩ = some (.int .i64 ((rd_T46 l1 x5_1).f2)) ∧ w'.cell? ⟨(ad669.add ((x5_1).toNat * 5)).block, (ad669.add ((x5_1).toNat * 5)).off + 3, none⟩ = some (.int .i64 ((rd_T46 l1 x5_1).f3)) ∧ w'.cell? ⟨(ad669.add ((x5_1).toNat * 5)).block, (ad669.add ((x5_1).toNat * 5)).off + 4, none⟩ = some (.int .i64 ((rd_T46 l1 x5_1).f4))) (ds := []) (tf_ 0 10) (by kernel_rfl) rfl rfl ⟨((HB.out.cell (World.block_lt_of_cell? w _ hw668_0)).trans hw668_0), ((HB.out.cell (World.block_lt_of_cell? w _ hw668_1)).trans hw668_1), ((HB.out.cell (World.block_lt_of_cell? w _ hw668_2)).trans hw668_2), ((HB.out.cell (World.block_lt_of_cell? w _ hw668_3)).trans hw668_3), ((HB.out.cell (World.block_lt_of_cell? w _ hw668_4)).trans hw668_4), ((HB.out.cell (World.block_lt_of_cell? w _ hw669_0)).trans hw669_0), ((HB.out.cell (World.block_lt_of_cell? w _ hw669_1)).trans hw669_1), ((HB.out.cell (World.block_lt_of_cell? w _ hw669_2)).trans hw669_2), ((HB.out.cell (World.block_lt_of_cell? w _ hw669_3)).trans hw669_3), ((HB.out.cell (World.block_lt_of_cell? w _ hw669_4)).trans hw669_4)⟩ (fun hHeld => ?_); refine with_tabW laws_eqStepS.tab6 laws_eqStepS.bits6 (fun HT_ HW_ => ?_)
        generalize wr.drew = w11 at HB hx668_0 hx668_1 hx668_2 hx668_3 hx668_4 hx669_0 hx669_1 hx669_2 hx669_3 hx669_4 hHeld ⊢
        refine pureQ_ (i := 0) (N := some 17) (tf_ 1 9) (h := ?_)
        refine pureQ_ (i := 1) (N := some 18) (tf_ 2 8) (h := ?_)
        refine pureQ_ (i := 2) (N := some 19) (tf_ 3 7) (h := ?_)
        refine pureQ_ (i := 4) (N := some 21) #[true, true, true, false, true, false, false, false, false, false] (h := ?_)
        refine pureQ_ (i := 5) (N := some 22) #[true, true, true, false, true, true, false, false, false, false] (h := ?_)
        refine pureQ_ (i := 6) (N := some 23) #[true, true, true, false, true, true, true, false, false, false] (h := ?_)
        refine takeQ_ (i := 3) (N := some 20) (tf_ 7 3) hHeld (hy := Or.inl ⟨by rfl, att14_0_10⟩) (h := ?_)
        refine takeQ_ (i := 7) (N := some 24) (tf_ 8 2) hHeld (hy := Or.inl ⟨by rfl, att14_0_10⟩) (h := ?_)
        refine one_ (i := 8) (N := some 25) (tf_ 9 1) rfl rfl (one_of HT_.out (by kernel_rfl)) (by decide) (fun K hK => ?_)
        refine goes_ Try.func137 (by kernel_rfl) rfl #[.agg #[.int .i64 ((rd_T46 l0 x5_1).f0), .int .i64 ((rd_T46 l0 x5_1).f1), .int .i64 ((rd_T46 l0 x5_1).f2), .int .i64 ((rd_T46 l0 x5_1).f3), .int .i64 ((rd_T46 l0 x5_1).f4)], .agg #[.int .i64 ((rd_T46 l1 x5_1).f0), .int .i64 ((rd_T46 l1 x5_1).f1), .int .i64 ((rd_T46 l1 x5_1).f2), .int .i64 ((rd_T46 l1 x5_1).f3), .int .i64 ((rd_T46 l1 x5_1).f4)]] (by rfl) rfl rfl atgM_ ?_
        with_reducible refine (laws_eqStep.calls ((rd_T46 l0 x5_1).f0) ((rd_T46 l0 x5_1).f1) ((rd_T46 l0 x5_1).f2) ((rd_T46 l0 x5_1).f3) ((rd_T46 l0 x5_1).f4) ((rd_T46 l1 x5_1).f0) ((rd_T46 l1 x5_1).f1) ((rd_T46 l1 x5_1).f2) ((rd_T46 l1 x5_1).f3) ((rd_T46 l1 x5_1).f4) false _ A7.out).mono ?_
        rintro e w12 ⟨rfl, hb⟩
        refine ⟨_, rfl, ?_⟩
        have n0_ := Aside0.mk (below_step atgB_ hb)
        clear HB
        have HB := n0_
        clear n0_
        (try clear hb)
        (try clear hb2)
        (try clear hk)
        (try clear hi)
        refine hK.out _ _ ⟨((HB.out.cell (World.block_lt_of_cell? w _ hw668_0)).trans hw668_0), ((HB.out.cell (World.block_lt_of_cell? w _ hw668_1)).trans hw668_1), ((HB.out.cell (World.block_lt_of_cell? w _ hw668_2)).trans hw668_2), ((HB.out.cell (World.block_lt_of_cell? w _ hw668_3)).trans hw668_3), ((HB.out.cell (World.block_lt_of_cell? w _ hw668_4)).trans hw668_4), ((HB.out.cell (World.block_lt_of_cell? w _ hw669_0)).trans hw669_0), ((HB.out.cell (World.block_lt_of_cell? w _ hw669_1)).trans hw669_1), ((HB.out.cell (World.block_lt_of_cell? w _ hw669_2)).trans hw669_2), ((HB.out.cell (World.block_lt_of_cell? w _ hw669_3)).trans hw669_3), ((HB.out.cell (World.block_lt_of_cell? w _ hw669_4)).trans hw669_4)⟩ (fun hHeld => ?_)
        clear hK K
        refine normS_ (N := some 25) (h := ?_)
        refine pureQ_ (i := 9) (N := some 26) (tf_ 10 0) (h := ?_)
        refine done_ (done_of HT_.out (by kernel_rfl)) ?_
        try go_wp2
        go_ret
        exact ⟨retT_, atgB_⟩
      ·rw [if_neg c6] at H
       exact absurd H (by simp)
     ·rw [if_neg c5] at H
      exact absurd H (by simp)
    ·rw [if_neg c4] at H
     have c4b0 := decide_eq_false c4
     clear c4
     obtain rfl := Option.some.inj H
     go_wp2
     go_ret
     exact ⟨retT_, atgB_⟩
 ·rw [if_neg c3] at H
  have c3b0 := beq_eq_false_iff_ne.mpr c3
  have c3b1 := bne_iff_ne.mpr c3
  have c3b2 : (l0.length == l1.length) = false := by first | simpa using c3 | (simp at c3 ⊢; omega)
  obtain rfl := Option.some.inj H
  go_enter Try.func68, Try.ntmps68
  go_wp2
  go_ret
  exact ⟨retT_, atgB_⟩

end Go.Proofs.Ytonlhgkpmjefkaa.XFnExactEmit
